/-
  Parts of the proof, one behind the other: contracts of functions and plain laws. No condition.
-/
import Derived.Maps.RangeRun
import Derived.ChangeKeysEq
import GoSem.Instr.MapUpdate
import GoSem.Instr.MakeMap
import Derived.Test.YtifkgmbghcmdeaaPt2TjurinaNumbe
/-
  Own slices put together out of rows of another one and of one more row; functions that are handed an own slice of rows and hand one back in its place. No condition.
-/
namespace Go.Proofs.Ytifkgmbghcmdeaa
open Go Go.RowKit

/-- Object 'p' takes the blocks of the objects 'k' and 'm', which are no more. -/
theorem Rel.absorb2 {base : Nat} {w w' : World} {gs : List Gh} {env : Env} {os : List AO} {tm : Array Value} (h : Rel base w gs env os tm) {p k : Nat} {g gk : Gh} {o ok : AO} (hg : gs[p]? = some g) (ho : os[p]? = some o) (hlv : o.live)
    (hgk : gs[k]? = some gk) (hok : os[k]? = some ok) (hlk : ok.live) (hpk : p ≠ k) {m : Nat} {gm : Gh} {om : AO} (hgm : gs[m]? = some gm) (hom : os[m]? = some om) (hlm : om.live) (hpm : p ≠ m) (g' : Gh) (o' : AO) (f : AV → AV) (hf : f .any = .any)
    (hw : ∀ b, b < w.heap.size → b ∉ g.bl → w'.heap[b]? = w.heap[b]?) (hsz : w.heap.size ≤ w'.heap.size)
    (hbl : ∀ b, b ∈ g'.bl → (b ∈ g.bl ∨ b ∈ gk.bl ∨ b ∈ gm.bl ∨ w.heap.size ≤ b) ∧ b < w'.heap.size)
    (hrv : ∀ {ok' : Nat → Prop} {v : Value} {a : AV}, Keeps (okOf gs os) ok' w w' → RV w (okOf gs os) gs v a → RV w' ok' (gs.set p g') v (f a))
    (hro : Keeps (okOf gs os) (okOf (gs.set p g') ((((os.map (AO.via f p)).set p o').set k .dead).set m .dead)) w w' → RO base w' (okOf (gs.set p g') ((((os.map (AO.via f p)).set p o').set k .dead).set m .dead)) (gs.set p g') g' o') :
    Rel base w' (gs.set p g') (env.mp f) ((((os.map (AO.via f p)).set p o').set k .dead).set m .dead) tm := by
  have hnd := hlv.ne
  have hnk := hlk.ne
  have hnm := hlm.ne
  have hpg : p < gs.length := (List.getElem?_eq_some_iff.1 hg).1
  have hpo : p < os.length := (List.getElem?_eq_some_iff.1 ho).1
  have hko : k < os.length := (List.getElem?_eq_some_iff.1 hok).1
  have hmo : m < os.length := (List.getElem?_eq_some_iff.1 hom).1
  have gset : ∀ {i : Nat} {x : Gh}, (gs.set p g')[i]? = some x → (i = p ∧ x = g') ∨ (i ≠ p ∧ gs[i]? = some x) := by
    intro i x e
    rw [List.getElem?_set] at e
    split at e
    · subst_vars; simp at e; exact .inl ⟨rfl, e.symm⟩
    · exact .inr ⟨fun e' => by simp_all, e⟩
  -- an object of the new state that is there
  have oset : ∀ {i : Nat} {x : AO}, ((((os.map (AO.via f p)).set p o').set k .dead).set m .dead)[i]? = some x → x ≠ .dead → i ≠ k ∧ i ≠ m ∧ ((i = p ∧ x = o') ∨ (i ≠ p ∧ ∃ y, os[i]? = some y ∧ x = y.via f p)) := by
    intro i x e hx
    rw [List.getElem?_set] at e
    split at e
    · subst_vars; simp [hmo] at e; exact absurd e.symm hx
    rename_i him
    rw [List.getElem?_set] at e
    split at e
    · subst_vars; simp [hko] at e; exact absurd e.symm hx
    · rename_i hik
      refine ⟨fun e' => hik e'.symm, fun e' => him e'.symm, ?_⟩
      rw [List.getElem?_set] at e
      split at e
      · subst_vars; simp [hpo] at e; exact .inl ⟨rfl, e.symm⟩
      · refine .inr ⟨fun e' => by simp_all, ?_⟩
        rw [List.getElem?_map] at e
        cases hy : os[i]? with
        | none => simp [hy] at e
        | some y => simp [hy] at e; exact ⟨y, rfl, e.symm⟩
  have kp : Keeps (okOf gs os) (okOf (gs.set p g') ((((os.map (AO.via f p)).set p o').set k .dead).set m .dead)) w w' := by
    intro b hb hlt
    refine ⟨?_, hw b hlt (hb p g o hg ho hlv)⟩
    intro i x y hx hy hny hmem
    obtain ⟨hik, him, hy'⟩ := oset hy hny.ne
    rcases gset hx with ⟨rfl, rfl⟩ | ⟨hi, hx'⟩
    · rcases (hbl b hmem).1 with h1 | h1 | h1 | h1
      · exact hb i g o hg ho hlv h1
      · exact hb k gk ok hgk hok hlk h1
      · exact hb m gm om hgm hom hlm h1
      · omega
    · rcases hy' with ⟨rfl, rfl⟩ | ⟨_, z, hz, rfl⟩
      · exact hi rfl
      · exact hb i x z hx' hz (AO.via_live.1 hny) hmem
  refine ⟨Nat.le_trans h.hb hsz, by simp [h.hl], h.hs, fun i => by rw [Env.lk_mp _ hf]; exact hrv kp (h.he i), ?_, ?_, ?_⟩
  · intro i x y hx hy
    by_cases hyd : y = .dead
    · subst hyd; trivial
    · obtain ⟨hik, him, hy'⟩ := oset hy hyd
      rcases gset hx with ⟨rfl, rfl⟩ | ⟨hi, hx'⟩
      · rcases hy' with ⟨_, rfl⟩ | ⟨hi, _⟩
        · exact hro kp
        · exact absurd rfl hi
      · rcases hy' with ⟨rfl, rfl⟩ | ⟨_, z, hz, rfl⟩
        · exact absurd rfl hi
        · have hz' := h.ho i x z hx' hz
          have same : z ≠ .dead → ∀ b, b ∈ x.bl → w'.heap[b]? = w.heap[b]? := fun hn b hb =>
            hw b (h.hn i x z hx' hz hn b hb).2 (h.hd i p x g z o hi hx' hg hz ho hn hnd b hb)
          cases z with
          | ob q => exact q.up (fun b hb => same (by simp) b hb) hz'
          | bx T avs =>
            obtain ⟨cs, h1, h2, h3, h4, h5, h6, h7⟩ := hz'
            exact ⟨cs, by rw [same (by simp) x.b (by simp [h3])]; exact h1, h2, h3, h4, by simpa using h5, h6, fun j => by rw [getD_map_f _ hf]; exact hrv kp (h7 j)⟩
          | keep n K =>
            obtain ⟨h1, h2, h3⟩ := hz'
            have hs : ∀ b, b ∈ x.bl → w'.heap[b]? = K.snap b := fun b hb => by rw [same (by simp) b hb]; exact h1 b hb
            simp only [AO.via]
            split
            · exact ⟨hs, rfl, fun i x hx => by simp at hx⟩
            · refine ⟨hs, h2, fun i y hy => ?_⟩
              have := (List.getElem?_eq_some_iff.1 hy).1
              rw [List.getElem?_set, if_neg (by omega)]
              exact h3 i y hy
          | dead => trivial
          | sli e xs =>
            obtain ⟨h1, h2, h3⟩ := hz'
            exact ⟨ownsRow_of_block h1 fun b hb => same (by simp) b (h3.mem hb), h2, h3⟩
          | slr e avs =>
            obtain ⟨vs, h1, h2, h3, h4⟩ := hz'
            exact ⟨vs, ownsRow_of_block h1 fun b hb => same (by simp) b (h4.mem hb), by simpa using h2, fun j => by rw [getD_map_f _ hf]; exact hrv kp (h3 j), h4⟩
          | sls e e2 xss =>
            obtain ⟨vs, bs, mb, h1, h2, h3, h4, h5, h6, h7, h8⟩ := hz'
            refine ⟨vs, bs, mb, ownsRow_of_block h1 fun b hb => same (by simp) b ?_, h2, h3, h4, fun i u hu => ?_, h6, h7, h8⟩
            · rw [h7]
              rcases h6 with ⟨h6, _⟩ | ⟨h6, h6'⟩
              · rw [h6] at hb; cases hb
              · rw [h6] at hb; cases hb; simp [h6']
            · obtain ⟨r1, r2, r3⟩ := h5 i u hu
              refine ⟨ownsRow_of_block r1 fun b hb => same (by simp) b ?_, r2, r3⟩
              rw [h7]
              refine List.mem_append.2 (.inr (List.mem_flatten.2 ⟨bs.getD i [], ?_, by rw [← r3, hb]; simp⟩))
              have hi : i < bs.length := by
                have := (List.getElem?_eq_some_iff.1 hu).1
                omega
              rw [List.getD_eq_getElem?_getD, List.getElem?_eq_getElem hi]
              simp
  · -- what p has now is apart from all others
    have apart : ∀ {j : Nat} {x : Gh} {z : AO}, j ≠ p → j ≠ k → j ≠ m → gs[j]? = some x → os[j]? = some z → z ≠ .dead → ∀ b, b ∈ g'.bl → b ∉ x.bl := by
      intro j x z hjp hjk hjm hx hz hzn b hb hb2
      rcases (hbl b hb).1 with h1 | h1 | h1 | h1
      · exact h.hd p j g x o z (fun e => hjp e.symm) hg hx ho hz hnd hzn b h1 hb2
      · exact h.hd k j gk x ok z (fun e => hjk e.symm) hgk hx hok hz hnk hzn b h1 hb2
      · exact h.hd m j gm x om z (fun e => hjm e.symm) hgm hx hom hz hnm hzn b h1 hb2
      · have := (h.hn j x z hx hz hzn b hb2).2; omega
    intro i j g1 g2 o1 o2 hij hg1 hg2 ho1 ho2 hn1 hn2 b hb1 hb2
    obtain ⟨hik, him, ho1'⟩ := oset ho1 hn1
    obtain ⟨hjk, hjm, ho2'⟩ := oset ho2 hn2
    rcases gset hg1 with ⟨rfl, rfl⟩ | ⟨hi, hg1'⟩
    · rcases gset hg2 with ⟨rfl, _⟩ | ⟨hj, hg2'⟩
      · exact hij rfl
      · rcases ho2' with ⟨rfl, _⟩ | ⟨_, z, hz, rfl⟩
        · exact hij rfl
        · exact apart hj hjk hjm hg2' hz (fun e => hn2 (AO.via_dead.2 e)) b hb1 hb2
    · rcases ho1' with ⟨rfl, _⟩ | ⟨_, z, hz, rfl⟩
      · exact absurd rfl hi
      · have hzn : z ≠ .dead := fun e => hn1 (AO.via_dead.2 e)
        rcases gset hg2 with ⟨rfl, rfl⟩ | ⟨hj, hg2'⟩
        · exact apart hi hik him hg1' hz hzn b hb2 hb1
        · rcases ho2' with ⟨rfl, _⟩ | ⟨_, y, hy, rfl⟩
          · exact absurd rfl hj
          · exact h.hd i j g1 g2 z y hij hg1' hg2' hz hy hzn (fun e => hn2 (AO.via_dead.2 e)) b hb1 hb2
  · intro i x y hx hy hny b hb
    obtain ⟨hik, him, hy'⟩ := oset hy hny
    rcases gset hx with ⟨rfl, rfl⟩ | ⟨hi, hx'⟩
    · have := hbl b hb
      refine ⟨?_, this.2⟩
      rcases this.1 with h1 | h1 | h1 | h1
      · exact (h.hn i g o hg ho hnd b h1).1
      · exact (h.hn k gk ok hgk hok hnk b h1).1
      · exact (h.hn m gm om hgm hom hnm b h1).1
      · exact Nat.le_trans h.hb h1
    · rcases hy' with ⟨rfl, rfl⟩ | ⟨_, z, hz, rfl⟩
      · exact absurd rfl hi
      · have := h.hn i x z hx' hz (fun e => hny (AO.via_dead.2 e)) b hb
        exact ⟨this.1, Nat.lt_of_lt_of_le this.2 hsz⟩


theorem nodup_append3 {a b c : List Nat} (ha : a.Nodup) (hb : b.Nodup) (hc : c.Nodup) (hab : ∀ x ∈ a, x ∉ b) (hac : ∀ x ∈ a, x ∉ c) (hbc : ∀ x ∈ b, x ∉ c) : (a ++ (b ++ c)).Nodup := by
  rw [List.nodup_append]
  refine ⟨ha, ?_, ?_⟩
  · rw [List.nodup_append]
    exact ⟨hb, hc, fun x hx y hy e => hbc x hx (e ▸ hy)⟩
  · intro x hx y hy e
    subst e
    rcases List.mem_append.1 hy with hy | hy
    · exact hab x hx hy
    · exact hac x hx hy

set_option maxHeartbeats 2000000 in
/-- The slice 'p' of rows of 'k', with the row 'm' among them, takes them all; 'k' and 'm' are no more. -/
theorem Rel.gather {base : Nat} {w : World} {gs : List Gh} {env : Env} {os : List AO} {tm : Array Value} (h : Rel base w gs env os tm) {p k m : Nat} {e e2 e3 e4 : TypeId} {xss : List (List Int)} {ys : List Int} {i1 i2 : List Nat}
    (hs : os[p]? = some (.slr e (i1.map (AV.orow k) ++ .own m :: i2.map (AV.orow k)))) (hk : os[k]? = some (.sls e3 e2 xss)) (hm : os[m]? = some (.sli e4 ys)) (he : e4 = e2) (hnd : (i1 ++ i2).Nodup) :
    ∃ gs', Rel base w gs' (env.mp (AV.noRow p)) ((((os.map (AO.via (AV.noRow p) p)).set p (.sls e e2 (i1.map (fun i => xss.getD i []) ++ ys :: i2.map fun i => xss.getD i []))).set k .dead).set m .dead) tm := by
  subst he
  have hne : p ≠ k := fun e => by subst e; rw [hs] at hk; cases hk
  have hnm : p ≠ m := fun e => by subst e; rw [hs] at hm; cases hm
  have hkm : k ≠ m := fun e => by subst e; rw [hk] at hm; cases hm
  have hpo : p < os.length := (List.getElem?_eq_some_iff.1 hs).1
  have hko : k < os.length := (List.getElem?_eq_some_iff.1 hk).1
  have hmo : m < os.length := (List.getElem?_eq_some_iff.1 hm).1
  obtain ⟨gp, hgp⟩ : ∃ x, gs[p]? = some x := ⟨_, List.getElem?_eq_getElem (by rw [h.hl]; exact hpo)⟩
  obtain ⟨gk, hgk⟩ : ∃ x, gs[k]? = some x := ⟨_, List.getElem?_eq_getElem (by rw [h.hl]; exact hko)⟩
  obtain ⟨gm, hgm⟩ : ∃ x, gs[m]? = some x := ⟨_, List.getElem?_eq_getElem (by rw [h.hl]; exact hmo)⟩
  obtain ⟨vs, a1, a2, a3, a4⟩ := h.ho _ _ _ hgp hs
  obtain ⟨us, bs, mb, b1, b2, b3, b4, b5, b6, b7, b8⟩ := h.ho _ _ _ hgk hk
  obtain ⟨c1, c2, c3⟩ := h.ho _ _ _ hgm hm
  have a2' : vs.length = i1.length + (i2.length + 1) := by simpa using a2
  have row : ∀ (j : Nat) u i, vs[j]? = some u → ((i1.map (AV.orow k) ++ .own m :: i2.map (AV.orow k)) : List AV)[j]? = some (.orow k i) → us[i]? = some u := by
    intro j u i hj hi
    have hrv := a3 j
    rw [List.getD_eq_getElem?_getD, hj, List.getD_eq_getElem?_getD, hi] at hrv
    simp only [Option.getD_some] at hrv
    cases hrv with
    | @orow _ _ g0 _ q1 q2 =>
      rw [hgk] at q1
      cases q1
      rw [b4] at q2
      exact q2
  have rowm : ∀ (j : Nat) u, vs[j]? = some u → ((i1.map (AV.orow k) ++ .own m :: i2.map (AV.orow k)) : List AV)[j]? = some (.own m) → u = gm.v := by
    intro j u hj hi
    have hrv := a3 j
    rw [List.getD_eq_getElem?_getD, hj, List.getD_eq_getElem?_getD, hi] at hrv
    simp only [Option.getD_some] at hrv
    cases hrv with
    | own q1 =>
      rw [hgm] at q1
      cases q1
      rfl
  have at1 : ∀ j, j < i1.length → ((i1.map (AV.orow k) ++ .own m :: i2.map (AV.orow k)) : List AV)[j]? = some (.orow k (i1.getD j 0)) := fun j hj => by
    rw [List.getElem?_append_left (by simpa using hj), List.getElem?_map, List.getElem?_eq_getElem hj, List.getD_eq_getElem?_getD, List.getElem?_eq_getElem hj]; rfl
  have at2 : ((i1.map (AV.orow k) ++ .own m :: i2.map (AV.orow k)) : List AV)[i1.length]? = some (.own m) := by
    rw [List.getElem?_append_right (by simp)]; simp
  have at3 : ∀ j, j < i2.length → ((i1.map (AV.orow k) ++ .own m :: i2.map (AV.orow k)) : List AV)[i1.length + 1 + j]? = some (.orow k (i2.getD j 0)) := fun j hj => by
    rw [List.getElem?_append_right (by simp; omega)]
    simp only [List.length_map]
    rw [show i1.length + 1 + j - i1.length = j + 1 by omega, List.getElem?_cons_succ, List.getElem?_map, List.getElem?_eq_getElem hj, List.getD_eq_getElem?_getD, List.getElem?_eq_getElem hj]; rfl
  have hidx : ∀ i ∈ i1 ++ i2, i < bs.length := by
    intro i hi
    rcases List.mem_append.1 hi with hi | hi
    · obtain ⟨j, hj⟩ := List.getElem?_of_mem hi
      have hjl := (List.getElem?_eq_some_iff.1 hj).1
      have := row j _ _ (List.getElem?_eq_getElem (by omega)) (at1 j hjl)
      rw [List.getD_eq_getElem?_getD, hj] at this
      have := (List.getElem?_eq_some_iff.1 this).1
      simp only [Option.getD_some] at this
      omega
    · obtain ⟨j, hj⟩ := List.getElem?_of_mem hi
      have hjl := (List.getElem?_eq_some_iff.1 hj).1
      have := row (i1.length + 1 + j) _ _ (List.getElem?_eq_getElem (by omega)) (at3 j hjl)
      rw [List.getD_eq_getElem?_getD, hj] at this
      have := (List.getElem?_eq_some_iff.1 this).1
      simp only [Option.getD_some] at this
      omega
  let f1 : List (List Nat) := i1.map fun i => bs.getD i []
  let f2 : List (List Nat) := i2.map fun i => bs.getD i []
  let cs : List (List Nat) := f1 ++ gm.bl :: f2
  let g' : Gh := ⟨gp.v, gp.b, gp.bl ++ cs.flatten, vs⟩
  have hsub : ∀ (l : List Nat), (∀ i ∈ l, i < bs.length) → ∀ b, b ∈ (l.map fun i => bs.getD i []).flatten → b ∈ bs.flatten := by
    intro l hl b hb
    obtain ⟨r, hr, hbl⟩ := List.mem_flatten.1 hb
    obtain ⟨i, hi, rfl⟩ := List.mem_map.1 hr
    have hil := hl i hi
    rw [List.getD_eq_getElem?_getD, List.getElem?_eq_getElem hil] at hbl
    exact List.mem_flatten.2 ⟨_, List.getElem_mem hil, hbl⟩
  have h1 : ∀ b, b ∈ f1.flatten → b ∈ gk.bl := fun b hb => by rw [b7]; exact List.mem_append.2 (.inr (hsub i1 (fun i hi => hidx i (List.mem_append.2 (.inl hi))) b hb))
  have h2 : ∀ b, b ∈ f2.flatten → b ∈ gk.bl := fun b hb => by rw [b7]; exact List.mem_append.2 (.inr (hsub i2 (fun i hi => hidx i (List.mem_append.2 (.inr hi))) b hb))
  have ecs : cs.flatten = f1.flatten ++ (gm.bl ++ f2.flatten) := by simp [cs]
  have hcs : ∀ b, b ∈ cs.flatten → b ∈ gk.bl ∨ b ∈ gm.bl := fun b hb => by
    rw [ecs] at hb
    rcases List.mem_append.1 hb with hb | hb
    · exact .inl (h1 b hb)
    · rcases List.mem_append.1 hb with hb | hb
      · exact .inr hb
      · exact .inl (h2 b hb)
  have dkm : ∀ b, b ∈ gk.bl → b ∉ gm.bl := fun b hb => h.hd k m gk gm _ _ hkm hgk hgm hk hm (by simp) (by simp) b hb
  have dpk : ∀ b, b ∈ gp.bl → b ∉ gk.bl := fun b hb => h.hd p k gp gk _ _ hne hgp hgk hs hk (by simp) (by simp) b hb
  have dpm : ∀ b, b ∈ gp.bl → b ∉ gm.bl := fun b hb => h.hd p m gp gm _ _ hnm hgp hgm hs hm (by simp) (by simp) b hb
  have hgl : p < gs.length := by rw [h.hl]; exact hpo
  have sv : SameV p gs (gs.set p g') := by
    refine ⟨fun j z hj hz => ?_, fun z hz => ⟨g', by simp [hgl], ?_, ?_⟩⟩
    · rw [List.getElem?_set, if_neg (fun e => hj e.symm)]; exact hz
    · rw [hgp] at hz; cases hz; rfl
    · rw [hgp] at hz; cases hz; rfl
  have hnd12 := List.nodup_append.1 hnd
  have nf : (f1.flatten ++ f2.flatten).Nodup := by
    have : ((i1 ++ i2).map fun i => bs.getD i []).flatten.Nodup := nodup_sel (by rw [b7] at b8; exact (List.nodup_append.1 b8).2.1) hnd hidx
    rw [List.map_append, List.flatten_append] at this
    exact this
  have nf' := List.nodup_append.1 nf
  refine ⟨gs.set p g', h.absorb2 hgp hs trivial hgk hk trivial hne hgm hm trivial hnm g' _ (AV.noRow p) rfl (fun _ _ _ => rfl) (Nat.le_refl _) ?_ (fun kp hv => hv.noRow kp sv) ?_⟩
  · intro b hb
    rcases List.mem_append.1 hb with hb | hb
    · exact ⟨.inl hb, (h.hn _ _ _ hgp hs (by simp) b hb).2⟩
    · rcases hcs b hb with h3 | h3
      · exact ⟨.inr (.inl h3), (h.hn _ _ _ hgk hk (by simp) b h3).2⟩
      · exact ⟨.inr (.inr (.inl h3)), (h.hn _ _ _ hgm hm (by simp) b h3).2⟩
  · intro kp
    refine ⟨vs, cs, gp.bl, a1, by simp [a2'], by simp [cs, f1, f2], rfl, fun j u hj => ?_, a4, rfl, ?_⟩
    · have hjl := (List.getElem?_eq_some_iff.1 hj).1
      rcases Nat.lt_trichotomy j i1.length with hlt | heq | hgt
      · have q := row j u _ hj (at1 j hlt)
        have g1 : (i1.map (fun i => xss.getD i []) ++ ys :: i2.map fun i => xss.getD i []).getD j [] = xss.getD (i1.getD j 0) [] := by
          rw [List.getD_eq_getElem?_getD, List.getElem?_append_left (by simpa using hlt), List.getElem?_map, List.getElem?_eq_getElem hlt, List.getD_eq_getElem?_getD (l := i1), List.getElem?_eq_getElem hlt]; rfl
        have g2 : cs.getD j [] = bs.getD (i1.getD j 0) [] := by
          show (f1 ++ gm.bl :: f2).getD j [] = _
          rw [List.getD_eq_getElem?_getD, List.getElem?_append_left (by simpa [f1] using hlt), List.getElem?_map, List.getElem?_eq_getElem hlt, List.getD_eq_getElem?_getD (l := i1), List.getElem?_eq_getElem hlt]; rfl
        rw [g1, g2]
        exact b5 _ u q
      · subst heq
        have q := rowm _ u hj at2
        subst q
        have g1 : (i1.map (fun i => xss.getD i []) ++ ys :: i2.map fun i => xss.getD i []).getD i1.length [] = ys := by
          rw [List.getD_eq_getElem?_getD, List.getElem?_append_right (by simp)]; simp
        have g2 : cs.getD i1.length [] = gm.bl := by
          show (f1 ++ gm.bl :: f2).getD i1.length [] = _
          rw [List.getD_eq_getElem?_getD, List.getElem?_append_right (by simp [f1])]; simp [f1]
        rw [g1, g2]
        exact ⟨c1, c2, c3.list⟩
      · obtain ⟨t, rfl⟩ : ∃ t, j = i1.length + 1 + t := ⟨j - (i1.length + 1), by omega⟩
        have htl : t < i2.length := by omega
        have q := row _ u _ hj (at3 t htl)
        have g1 : (i1.map (fun i => xss.getD i []) ++ ys :: i2.map fun i => xss.getD i []).getD (i1.length + 1 + t) [] = xss.getD (i2.getD t 0) [] := by
          rw [List.getD_eq_getElem?_getD, List.getElem?_append_right (by simp; omega)]
          simp only [List.length_map]
          rw [show i1.length + 1 + t - i1.length = t + 1 by omega, List.getElem?_cons_succ, List.getElem?_map, List.getElem?_eq_getElem htl, List.getD_eq_getElem?_getD (l := i2), List.getElem?_eq_getElem htl]; rfl
        have g2 : cs.getD (i1.length + 1 + t) [] = bs.getD (i2.getD t 0) [] := by
          show (f1 ++ gm.bl :: f2).getD (i1.length + 1 + t) [] = _
          rw [List.getD_eq_getElem?_getD, List.getElem?_append_right (by simp [f1]; omega)]
          simp only [f1, f2, List.length_map]
          rw [show i1.length + 1 + t - i1.length = t + 1 by omega, List.getElem?_cons_succ, List.getElem?_map, List.getElem?_eq_getElem htl, List.getD_eq_getElem?_getD (l := i2), List.getElem?_eq_getElem htl]; rfl
        rw [g1, g2]
        exact b5 _ u q
    · show (gp.bl ++ cs.flatten).Nodup
      rw [ecs, List.nodup_append]
      refine ⟨a4.nodup, nodup_append3 nf'.1 c3.nodup nf'.2.1 (fun x hx hx2 => dkm x (h1 x hx) hx2) (fun x hx hx2 => nf'.2.2 x hx x hx2 rfl) (fun x hx hx2 => dkm x (h2 x hx2) hx), ?_⟩
      intro a ha b hb e
      subst e
      rw [← ecs] at hb
      rcases hcs a hb with h3 | h3
      · exact dpk a ha h3
      · exact dpm a ha h3

/-- A state may be seen as another one. -/
def Turns (env : Env) (os : List AO) (env' : Env) (os' : List AO) : Prop := ∀ base w gs tm, Rel base w gs env os tm → ∃ gs', Rel base w gs' env' os' tm
theorem Turns.refl {env : Env} {os : List AO} : Turns env os env os := fun _ _ gs _ h => ⟨gs, h⟩
theorem Turns.gather {env : Env} {os : List AO} {p k m : Nat} {e e2 e3 e4 : TypeId} {xss : List (List Int)} {ys : List Int} {i1 i2 : List Nat}
    (hs : os[p]? = some (.slr e (i1.map (AV.orow k) ++ .own m :: i2.map (AV.orow k)))) (hk : os[k]? = some (.sls e3 e2 xss)) (hm : os[m]? = some (.sli e4 ys)) (he : e4 = e2) (hnd : (i1 ++ i2).Nodup) :
    Turns env os (env.mp (AV.noRow p)) ((((os.map (AO.via (AV.noRow p) p)).set p (.sls e e2 (i1.map (fun i => xss.getD i []) ++ ys :: i2.map fun i => xss.getD i []))).set k .dead).set m .dead) := fun _ _ _ _ h => h.gather hs hk hm he hnd
theorem Turns.merge {env : Env} {os : List AO} {p k : Nat} {e e2 e3 : TypeId} {xss : List (List Int)} {idx : List Nat} (hs : os[p]? = some (.slr e (idx.map (AV.orow k)))) (hk : os[k]? = some (.sls e3 e2 xss)) (hnd : idx.Nodup) :
    Turns env os (env.mp (AV.noRow p)) (((os.map (AO.via (AV.noRow p) p)).set p (.sls e e2 (idx.map fun i => xss.getD i []))).set k .dead) := fun _ _ _ _ h => h.merge hs hk hnd
end Go.Proofs.Ytifkgmbghcmdeaa
/-
  Own slices of rows put together: parts of own slices of rows, appends of them; a cell of a row is written; functions that are handed an own slice of rows and hand one back in its place. No condition.
-/
namespace Go.Proofs.Ytifkgmbghcmdeaa
open Go Go.RowKit

section
variable {P : Program} {env : Env} {os : List AO} {d : Option Tmp} {ty : TypeId} {pos : String} {af : Array Edge} {g : Option (Nat × Bool)} {wl : Bool}

theorem sls_slice {base : Nat} {w : World} {ok : Nat → Prop} {gs : List Gh} {gh : Gh} {e e2 : TypeId} {xss : List (List Int)} (h : RO base w ok gs gh (.sls e e2 xss)) : ∃ a cap, gh.v = .slice a xss.length cap ∧ xss.length ≤ cap ∧ cap ≤ maxLen ∧
    (0 < xss.length → a = some ⟨gh.b, 0, none⟩) ∧ gh.rows.length = xss.length ∧ (∀ (i : Nat) u, gh.rows[i]? = some u → w.cell? ⟨gh.b, i, none⟩ = some u ∧ ∃ ua n c, u = .slice ua n c) := by
  obtain ⟨vs, bs, mb, a1, a2, a3, a4, a5, a6, a7, a8⟩ := h
  obtain ⟨a, cap, q1, q2, q3, q4⟩ := RowAt.of_owns a1
  rw [a2] at q1 q2 q4
  have hblk : ∀ b off, a = some ⟨b, off, none⟩ → 0 < xss.length → b = gh.b ∧ off = 0 := by
    intro b off ha hp
    obtain ⟨b', cap', r1, r2, _, _⟩ := own_slice a1 (i := 0) (by omega)
    rw [q1, ha] at r1
    simp only [Value.slice.injEq, Option.some.injEq, Addr.mk.injEq, and_true] at r1
    obtain ⟨⟨rfl, rfl⟩, _⟩ := r1
    rcases a6 with ⟨s1, _⟩ | ⟨s1, _⟩
    · rw [s1] at r2; cases r2
    · rw [s1] at r2; cases r2; exact ⟨rfl, rfl⟩
  refine ⟨a, cap, q1, q2, q3, fun hp => ?_, by rw [a4, a2], fun i u hu => ?_⟩
  · obtain ⟨b, off, r1, _, _⟩ := q4 hp
    obtain ⟨rfl, rfl⟩ := hblk b off r1 hp
    exact r1
  · rw [a4] at hu
    have hi := (List.getElem?_eq_some_iff.1 hu).1
    obtain ⟨b, off, r1, _, r3⟩ := q4 (by omega)
    obtain ⟨rfl, rfl⟩ := hblk b off r1 (by omega)
    have := r3 i u hu
    rw [Nat.zero_add] at this
    obtain ⟨ua, uc, eu⟩ := ownsRow_slice (a5 i u hu).1
    exact ⟨this, ua, _, uc, eu⟩

theorem q_sls_hi {t e : TypeId} [ht : TSlice P t e] [he : TCell P e] {x y : Operand} {h : Nat} {e' e2 : TypeId} {xss : List (List Int)} {n : Int} (hx : AV.ev env x = .own h) (hs : os[h]? = some (.sls e' e2 xss)) (hy : AV.ev env y = .i n) (h0 : 0 ≤ n) (h1 : n ≤ xss.length) :
    QOp P wl ⟨d, .slice t x none (some y) none, ty, pos, af, g⟩ env os (.osub h 0 n.toNat) :=
  .of_run fun _ w gs tm hr => by
    have hh := hr.ev x
    rw [hx] at hh
    generalize hv : Act.eval ⟨tm, []⟩ x = v at hh
    cases hh with
    | @own _ gh hg =>
      obtain ⟨a, cap, ev, hc, hm, ha, _⟩ := sls_slice (hr.ho _ _ _ hg hs)
      have e1 := elem_of (P := P) ht.und
      refine ⟨sliced a 0 n.toNat cap 1, ?_, fun w' _ => ?_⟩
      · refine RV.osub hg (fun hp => ?_) (by omega) (by omega)
        rw [if_neg (by omega), ha (by omega)]
        simp [add_none]
      · have hrun := run_slice_h (P := P) w' t a xss.length cap (by rw [e1]; exact ht.und) .i64 n h0 (by omega)
        rw [e1, run_size] at hrun
        have hat := run_sliceAt_slice (P := P) w' t (.slice a xss.length cap) none (some (.int .i64 n)) none (by rw [e1]; exact ht.und)
        simp only [execOp, hv, ev, hr.evv hy, Option.map_none, Option.map_some, Sem.run_bind, hat, hrun, Result.andThen_ok, Sem.run_pure]

theorem q_sls_lo {t e : TypeId} [ht : TSlice P t e] [he : TCell P e] {x y : Operand} {h : Nat} {e' e2 : TypeId} {xss : List (List Int)} {n : Int} (hx : AV.ev env x = .own h) (hs : os[h]? = some (.sls e' e2 xss)) (hy : AV.ev env y = .i n) (h0 : 0 ≤ n) (h1 : n ≤ xss.length) :
    QOp P wl ⟨d, .slice t x (some y) none none, ty, pos, af, g⟩ env os (.osub h n.toNat (xss.length - n.toNat)) :=
  .of_run fun _ w gs tm hr => by
    have hh := hr.ev x
    rw [hx] at hh
    generalize hv : Act.eval ⟨tm, []⟩ x = v at hh
    cases hh with
    | @own _ gh hg =>
      obtain ⟨a, cap, ev, hc, hm, ha, _⟩ := sls_slice (hr.ho _ _ _ hg hs)
      have e1 := elem_of (P := P) ht.und
      refine ⟨sliced a n.toNat xss.length cap 1, ?_, fun w' _ => ?_⟩
      · refine RV.osub hg (fun hp => ?_) (by omega) (by omega)
        rw [if_neg (by omega), ha (by omega)]
        simp [add_none]
      · have hrun := run_slice_l (P := P) w' t a xss.length cap (by rw [e1]; exact ht.und) .i64 n h0 h1
        rw [e1, run_size] at hrun
        have hat := run_sliceAt_slice (P := P) w' t (.slice a xss.length cap) (some (.int .i64 n)) none none (by rw [e1]; exact ht.und)
        simp only [execOp, hv, ev, hr.evv hy, Option.map_none, Option.map_some, Sem.run_bind, hat, hrun, Result.andThen_ok, Sem.run_pure]

/-! ### Sources of appends -/
/-- The slice value v reads as cells of these abstract values. -/
def SrcAt (w : World) (ok : Nat → Prop) (gs : List Gh) (v : Value) (new : List AV) : Prop :=
  ∃ (pa : Option Addr) (cap : Nat) (news : List Value), v = .slice pa new.length cap ∧ news.length = new.length ∧ (0 < new.length → ∃ a, pa = some a ∧ ∀ (j : Nat) u, news[j]? = some u → w.cell? (a.add j) = some u) ∧ (∀ u ∈ news, u.oneCell' = true) ∧
    ∀ i : Nat, RV w ok gs (news.getD i undef) (new.getD i .any)
def Src (env : Env) (os : List AO) (y : Operand) (new : List AV) : Prop := ∀ base w gs tm, Rel base w gs env os tm → SrcAt w (okOf gs os) gs (Act.eval ⟨tm, []⟩ y) new

theorem range_get (off len j : Nat) (k : Nat) : ((List.range' off len).map (AV.orow k)).getD j .any = if j < len then .orow k (off + j) else .any := by
  simp only [List.getD_eq_getElem?_getD, List.getElem?_map]
  by_cases h : j < len
  · rw [if_pos h, List.getElem?_range' (by omega)]; simp
  · rw [if_neg h, List.getElem?_eq_none (by simp; omega)]; rfl

theorem src_sub {y : Operand} {h off len : Nat} {e e2 : TypeId} {xss : List (List Int)} (hy : AV.ev env y = .osub h off len) (hs : os[h]? = some (.sls e e2 xss)) (hle : off + len ≤ xss.length) : Src env os y ((List.range' off len).map (AV.orow h)) := by
  intro base w gs tm hr
  have hyv := hr.ev y
  rw [hy] at hyv
  generalize hv : Act.eval ⟨tm, []⟩ y = v at hyv
  cases hyv with
  | @osub _ _ _ cap p gh hg hp hc hm =>
    obtain ⟨_, _, _, _, _, _, q5, q6⟩ := sls_slice (hr.ho _ _ _ hg hs)
    refine ⟨p, cap, (gh.rows.drop off).take len, by simp, by simp; omega, fun h0 => ?_, fun u hu => ?_, fun i => ?_⟩
    · simp at h0
      refine ⟨_, hp h0, fun j u hj => ?_⟩
      rw [List.getElem?_take] at hj
      split at hj
      · rw [List.getElem?_drop] at hj
        rw [add_none]
        exact (q6 _ _ hj).1
      · cases hj
    · obtain ⟨j, hj⟩ := List.getElem?_of_mem (List.mem_of_mem_drop (List.mem_of_mem_take hu))
      obtain ⟨_, ua, n, c, rfl⟩ := q6 _ _ hj
      rfl
    · rw [range_get]
      by_cases hi : i < len
      · rw [if_pos hi]
        have hlt : off + i < gh.rows.length := by omega
        have e1 : ((gh.rows.drop off).take len).getD i undef = gh.rows[off + i] := by
          rw [List.getD_eq_getElem?_getD, List.getElem?_take, if_pos hi, List.getElem?_drop, List.getElem?_eq_getElem hlt]; rfl
        rw [e1]
        exact .orow hg (List.getElem?_eq_getElem hlt)
      · rw [if_neg hi]; exact .any _

/-- Cells that hold rows. -/
def RowsOk (os : List AO) (avs : List AV) : Prop := ∀ a ∈ avs, (∃ k i e e2 xss, a = .orow k i ∧ os[k]? = some (AO.sls e e2 xss)) ∨ ∃ k e ys, a = .own k ∧ os[k]? = some (AO.sli e ys)
theorem rowsOk_cons {os : List AO} {k : Nat} {e : TypeId} {ys : List Int} {avs : List AV} (hk : os[k]? = some (.sli e ys)) (h : RowsOk os avs) : RowsOk os (.own k :: avs) := fun a ha => by
  rcases List.mem_cons.1 ha with rfl | ha
  · exact .inr ⟨k, e, ys, rfl, hk⟩
  · exact h a ha
theorem rowsOk_map {os : List AO} {k : Nat} {e e2 : TypeId} {xss : List (List Int)} {l : List Nat} (hk : os[k]? = some (.sls e e2 xss)) : RowsOk os (l.map (AV.orow k)) := fun a ha => by
  obtain ⟨i, _, rfl⟩ := List.mem_map.1 ha
  exact .inl ⟨k, i, e, e2, xss, rfl, hk⟩
theorem rows_one {base : Nat} {w : World} {gs : List Gh} {tm : Array Value} (hr : Rel base w gs env os tm) {avs : List AV} (h : RowsOk os avs) {i : Nat} {u : Value} {a : AV} (ha : avs[i]? = some a) (hu : RV w (okOf gs os) gs u a) : u.oneCell' = true := by
  rcases h a (List.mem_of_getElem? ha) with ⟨k, j, e, e2, xss, rfl, hk⟩ | ⟨k, e, ys, rfl, hk⟩
  · cases hu with
    | orow hg hrow =>
      obtain ⟨_, _, _, _, _, _, _, q6⟩ := sls_slice (hr.ho _ _ _ hg hk)
      obtain ⟨_, ua, n, c, rfl⟩ := q6 _ _ hrow
      rfl
  · cases hu with
    | own hg =>
      obtain ⟨a1, _⟩ := hr.ho _ _ _ hg hk
      obtain ⟨ua, uc, eu⟩ := ownsRow_slice a1
      rw [eu]; rfl

theorem src_slr {y : Operand} {q : Nat} {e : TypeId} {avs : List AV} (hy : AV.ev env y = .own q) (hs : os[q]? = some (.slr e avs)) (hok : RowsOk os avs) : Src env os y avs := by
  intro base w gs tm hr
  have hyv := hr.ev y
  rw [hy] at hyv
  generalize hv : Act.eval ⟨tm, []⟩ y = v at hyv
  cases hyv with
  | @own _ gh hg =>
    obtain ⟨vs, a1, a2, a3, a4⟩ := hr.ho _ _ _ hg hs
    obtain ⟨a, cap, q1, q2, q3, q4⟩ := RowAt.of_owns a1
    rw [a2] at q1 q2 q4
    refine ⟨a, cap, vs, q1, a2, fun h0 => ?_, fun u hu => ?_, a3⟩
    · obtain ⟨b, off, r1, _, r3⟩ := q4 h0
      exact ⟨_, r1, fun j u hj => by rw [add_none]; exact r3 j u hj⟩
    · obtain ⟨j, hj⟩ := List.getElem?_of_mem hu
      have hjl := (List.getElem?_eq_some_iff.1 hj).1
      have := a3 j
      rw [List.getD_eq_getElem?_getD, hj, List.getD_eq_getElem?_getD, List.getElem?_eq_getElem (by omega)] at this
      exact rows_one hr hok (List.getElem?_eq_getElem (by omega)) this

set_option maxHeartbeats 1000000 in
theorem l_append_src {t e : TypeId} {bytes : Nat} {z0 : Value} [ht : TSlice P t e] [he : TElem P e z0 bytes] {x y : Operand} {h : Nat} {e' : TypeId} {avs new : List AV} (hx : AV.ev env x = .own h) (hs : os[h]? = some (.slr e' avs)) (hee : e' = e)
    (hy : Src env os y new) (hb : (avs.length + new.length) * bytes ≤ 140737488355328) (hk1 : avs.map (AV.kill h) = avs) (hk2 : new.map (AV.kill h) = new) (hzc : z0.cells.size = 1 := by rfl) :
    LOp P ⟨d, .call { callee := .builtin .append, args := #[x, y], argTypes := #[t, t] }, ty, pos, af, g⟩ env os (.own h) (env.mp (AV.kill h)) ((os.map (AO.kill h)).set h (.slr e (avs ++ new))) := by
  subst hee
  intro base w gs tm hr
  have hxv := hr.ev x
  rw [hx] at hxv
  obtain ⟨pa, cap, news, hu, hnl, hcells, hone, hrvn⟩ := hy base w gs tm hr
  generalize hv : Act.eval ⟨tm, []⟩ x = v at hxv
  cases hxv with
  | @own _ gh hg =>
    obtain ⟨vs, a1, a2, a3, a4⟩ := hr.ho _ _ _ hg hs
    obtain ⟨ii, hi, hsz, hz, hby⟩ := he.info
    have hbase : base ≤ w.heap.size := hr.hb
    have key : ∃ v' w', (Builtin.append_ #[t, t] ty #[gh.v, .slice pa new.length cap]).run P w = .ok v' w' ∧ w'.ownsRow base e' 1 v' (vs.length + new.length) (vs ++ news) ∧ w.grownBy w' gh.v.ownBlock ∧
        (v'.ownBlock = gh.v.ownBlock ∨ v'.ownBlock = some w.heap.size) := by
      by_cases h0 : new.length = 0
      · have e0 : news = [] := List.length_eq_zero_iff.1 (by omega)
        rw [h0, e0]
        exact ⟨gh.v, w, run_append_none ht.und hi a1 pa cap, by simpa using a1, ⟨rfl, rfl, rfl, Nat.le_refl _, fun _ _ _ => rfl⟩, .inl rfl⟩
      · obtain ⟨a, rfl, hc⟩ := hcells (by omega)
        have h64 : vs.length + new.length ≤ maxLen := by
          have hb0 := he.pos
          have : avs.length + new.length ≤ (avs.length + new.length) * bytes := Nat.le_mul_of_pos_right _ hb0
          simp only [maxLen]; omega
        obtain ⟨v', w', r1, r2, r3, _, r5⟩ := run_append_own_at (P := P) w base t ty e' ii _ 1 bytes ht.und hi hz hsz hby hzc (by omega) gh.v vs.length vs a1 a new.length cap news (by omega) hc hone h64 (by rw [a2]; exact hb) hbase
        exact ⟨v', w', r1, r2, r3, r5⟩
    obtain ⟨v', w', r1, r2, r3, r5⟩ := key
    have hgb : ∀ b, b ∉ gh.bl → some b ≠ gh.v.ownBlock := fun b hb e => hb (a4.mem e.symm)
    let g' : Gh := ⟨v', v'.ownBlock.getD 0, v'.ownBlock.toList, gh.rows⟩
    have hgb' : GB g' := by
      show (v'.ownBlock = none ∧ v'.ownBlock.toList = []) ∨ (v'.ownBlock = some (v'.ownBlock.getD 0) ∧ v'.ownBlock.toList = [v'.ownBlock.getD 0])
      cases v'.ownBlock with
      | none => exact .inl ⟨rfl, rfl⟩
      | some b => exact .inr ⟨rfl, rfl⟩
    have hlt : ∀ b, v'.ownBlock = some b → b < w'.heap.size := by
      intro b hb
      rcases r2.2 with ⟨e1, _⟩ | ⟨gg, cc, cur, e1, _, hgg, _⟩
      · rw [e1] at hb; cases hb
      · rw [e1] at hb; cases hb; exact (Array.getElem?_eq_some_iff.1 hgg).1
    refine ⟨v', w', gs.set h g', .inl ?_, hr.turn hg hs trivial g' (.slr e' (avs ++ new)) (fun b hb hn => r3.block b hb (hgb b hn)) r3.size ?_ (fun i v hv => hv) ?_, ?_, ?_⟩
    · simp only [execOp, resolve, invoke, builtin, Sem.run_bind, Sem.run_pure, Result.andThen_ok, List.map_toArray, List.map_cons, List.map_nil, hv, hu, r1]
    · intro b hb
      have hb' : v'.ownBlock = some b := by
        have hb2 : b ∈ v'.ownBlock.toList := hb
        cases hvb : v'.ownBlock with
        | none => rw [hvb] at hb2; simp at hb2
        | some c => rw [hvb] at hb2; simp at hb2; rw [hb2]
      refine ⟨?_, hlt b hb'⟩
      rcases r5 with r5 | r5
      · left; rw [hb'] at r5; exact a4.mem r5.symm
      · right; rw [hb'] at r5; cases r5; exact Nat.le_refl _
    · intro kp tn
      refine ⟨vs ++ news, by rw [List.length_append, hnl]; exact r2, by simp [a2, hnl], fun j => ?_, hgb'⟩
      by_cases hj : j < vs.length
      · have e1 : (vs ++ news).getD j undef = vs.getD j undef := by simp only [List.getD_eq_getElem?_getD]; rw [List.getElem?_append_left hj]
        have e2 : (avs ++ new).getD j .any = (avs.getD j .any).kill h := by
          rw [← getD_map_kill, hk1]
          simp only [List.getD_eq_getElem?_getD]; rw [List.getElem?_append_left (by omega)]
        rw [e1, e2]
        exact (a3 j).kill kp tn
      · have e1 : (vs ++ news).getD j undef = news.getD (j - vs.length) undef := by simp only [List.getD_eq_getElem?_getD]; rw [List.getElem?_append_right (by omega)]
        have e2 : (avs ++ new).getD j .any = (new.getD (j - vs.length) .any).kill h := by
          rw [← getD_map_kill, hk2]
          simp only [List.getD_eq_getElem?_getD]; rw [List.getElem?_append_right (by omega), a2]
        rw [e1, e2]
        exact (hrvn _).kill kp tn
    · have hk : h < gs.length := (List.getElem?_eq_some_iff.1 hg).1
      exact RV.own (g := g') (by simp [hk])
    · refine ⟨r3.os, r3.tape, r3.output, r3.size, fun b hb => r3.block b (by have := hr.hb; omega) (hgb b fun hm => ?_)⟩
      have := (hr.hn _ _ _ hg hs (by simp) b hm).1
      omega

/-- A literal slice of one own row, as an own slice. -/
theorem l_bslr1 {t e : TypeId} {bytes : Nat} [ht : TSlice P t e] [he : TElem P e (.slice none 0 0) bytes] {x : Operand} {k : Nat} {e3 : TypeId} {ys : List Int} (hx : AV.ev env x = .own k) (hk : os[k]? = some (.sli e3 ys)) :
    LOp P ⟨d, .buildSlice t 1 #[(0, x)], ty, pos, af, g⟩ env os (.own os.length) env (os ++ [.slr e [.own k]]) := by
  intro base w gs tm hr
  have hxv := hr.ev x
  rw [hx] at hxv
  generalize hv : Act.eval ⟨tm, []⟩ x = v at hxv
  cases hxv with
  | @own _ gk hgk =>
    obtain ⟨b1, b2, b3⟩ := hr.ho _ _ _ hgk hk
    obtain ⟨ua, uc, eu⟩ := ownsRow_slice b1
    obtain ⟨ii, hi, hs, hz, hby⟩ := he.info
    have hbel := below_alloc w (.cells [gk.v].toArray e)
    have hlt : w.heap.size < (w.alloc (.cells [gk.v].toArray e)).heap.size := by simp
    have hno : AO.slr e [.own k] ≠ .dead → ∀ b, b ∈ [w.heap.size] → w.heap.size ≤ b ∧ b < (w.alloc (.cells [gk.v].toArray e)).heap.size := fun _ b hb => by simp at hb; omega
    let gn : Gh := ⟨.slice (some ⟨w.heap.size, 0, none⟩) 1 1, w.heap.size, [w.heap.size], []⟩
    have hgs : ∀ (i : Nat) g', gs[i]? = some g' → (gs ++ [gn])[i]? = some g' := fun i g' e => by
      rw [List.getElem?_append_left (List.getElem?_eq_some_iff.1 e).1]; exact e
    refine ⟨.slice (some ⟨w.heap.size, 0, none⟩) 1 1, _, gs ++ [gn], .inl ?_, hr.new hbel _ _ hno ?_, ?_, hbel.mono hr.hb⟩
    · simp [execOp, Instr.buildSlice, run_underlying ht.und, sizeOf, typeInfo, zeroValue, hi, hs, hz, Instr.fill, newRow, hv, eu, Value.cells, ar1]
    · refine ⟨[gk.v], ⟨rfl, .inr ⟨w.heap.size, 1, _, rfl, hr.hb, heap_alloc_new w _, Nat.le_refl _, by simp [maxLen], by simp, by simp⟩⟩, rfl, fun i => ?_, .inr ⟨rfl, rfl⟩⟩
      match i with
      | 0 => exact .own (hgs _ _ hgk)
      | i + 1 => exact .any _
    · have := RV.own (w := w.alloc (.cells [gk.v].toArray e)) (ok := okOf (gs ++ [gn]) (os ++ [.slr e [.own k]])) (len_new (gs := gs) (g := gn))
      rw [hr.hl] at this
      exact this

theorem l_bslr0 {t e : TypeId} {bytes : Nat} [ht : TSlice P t e] [he : TElem P e (.slice none 0 0) bytes] : LOp P ⟨d, .buildSlice t 0 #[], ty, pos, af, g⟩ env os (.own os.length) env (os ++ [.slr e []]) := l_bsx0 0


/-- A cell of a row is written. -/
theorem l_store_orptr {t : TypeId} [ht : TCell P t] {x y : Operand} {h i j : Nat} {e e2 : TypeId} {xss : List (List Int)} {n : Int} (hx : AV.ev env x = .orptr h i j) (hs : os[h]? = some (.sls e e2 xss)) (hi : i < xss.length) (hj : j < (xss.getD i []).length) (hy : AV.ev env y = .i n) (hn : inI n) :
    LOp P ⟨d, .store t x y, ty, pos, af, g⟩ env os .any env (os.set h (.sls e e2 (xss.set i ((xss.getD i []).set j n)))) := by
  intro base w gs tm hr
  have hh := hr.ev x
  rw [hx] at hh
  generalize hv : Act.eval ⟨tm, []⟩ x = v at hh
  cases hh with
  | @orptr _ _ _ blk m c gh hg hrow =>
    obtain ⟨vs, bs, mb, a1, a2, a3, a4, a5, a6, a7, a8⟩ := hr.ho _ _ _ hg hs
    rw [a4] at hrow
    obtain ⟨r1, r2, r3⟩ := a5 _ _ hrow
    have hib : i < bs.length := by omega
    obtain ⟨b, cap, e1, e2', e3', e4⟩ := own_slice r1 (i := j) (by simpa using hj)
    simp only [Value.slice.injEq, Option.some.injEq, Addr.mk.injEq, and_true] at e1
    obtain ⟨rfl, em, rfl⟩ := e1
    have hst := r1
    rw [em] at hst
    have hst := hst.stored j (.int .i64 n)
    have hbi : blk ∈ bs.getD i [] := by rw [← r3]; simp [Value.ownBlock]
    have hbf : blk ∈ bs.flatten := List.mem_flatten.2 ⟨bs.getD i [], by rw [List.getD_eq_getElem?_getD, List.getElem?_eq_getElem hib]; simp, hbi⟩
    have hbg : blk ∈ gh.bl := by rw [a7]; exact List.mem_append.2 (.inr hbf)
    have hap : ∀ c, c ≠ blk → (w.setCell ⟨blk, j, none⟩ (.int .i64 n)).heap[c]? = w.heap[c]? := fun c hc => heap_setCell_other w ⟨blk, j, none⟩ c _ (fun e' => hc e')
    rw [a7] at a8
    obtain ⟨nm, nf, nd⟩ := List.nodup_append.1 a8
    have hcell : w.cell? ⟨blk, j, none⟩ = some (.int .i64 ((xss.getD i []).getD j 0)) := by rw [e3']; generalize xss.getD i [] = row at hj ⊢; simp [hj]
    refine ⟨undef, w.setCell ⟨blk, j, none⟩ (.int .i64 n), gs, .inr ⟨?_, rfl⟩, hr.upd hg hs trivial _ trivial (fun c hc hcb => hap c (fun e' => hcb (by rw [e']; exact hbg))) hst.2.size fun _ => ?_, .any _, ?_⟩
    · have := run_store_cell (P := P) (t := t) (a := ⟨blk, j, none⟩) hcell e4 (v := .int .i64 n) rfl rfl
      simp only [execOp, hv, hr.evv hy, Sem.run_bind, this, Result.andThen_ok, Sem.run_pure]
    · refine ⟨vs, bs, mb, ownsRow_of_block a1 fun c hc => hap c fun e' => ?_, by simpa using a2, by simpa using a3, a4, fun k u hu => ?_, a6, a7, by rw [a7]; exact a8⟩
      · subst e'
        rcases a6 with ⟨c1, _⟩ | ⟨c1, c2⟩
        · rw [c1] at hc; cases hc
        · rw [c1] at hc; cases hc
          exact nd _ (by rw [c2]; simp) _ hbf rfl
      · obtain ⟨q1, q2, q3⟩ := a5 k u hu
        have hk := (List.getElem?_eq_some_iff.1 hu).1
        by_cases hki : k = i
        · subst hki
          rw [hrow] at hu
          cases hu
          have eg : (xss.set k ((xss.getD k []).set j n)).getD k [] = (xss.getD k []).set j n := by
            rw [List.getD_eq_getElem?_getD, List.getElem?_set_self hi]; rfl
          rw [eg]
          refine ⟨?_, fun z hz => ?_, q3⟩
          · rw [em, List.length_set, List.map_set]
            exact hst.1
          · rcases List.mem_or_eq_of_mem_set hz with h1 | rfl
            · exact q2 z h1
            · exact hn
        · have eg : (xss.set i ((xss.getD i []).set j n)).getD k [] = xss.getD k [] := by
            rw [List.getD_eq_getElem?_getD, List.getElem?_set, if_neg (fun e' => hki e'.symm), List.getD_eq_getElem?_getD]
          rw [eg]
          refine ⟨ownsRow_of_block q1 fun c hc => hap c fun e' => ?_, q2, q3⟩
          subst e'
          have hc2 : c ∈ bs.getD k [] := by rw [← q3, hc]; simp
          have hkb : k < bs.length := by omega
          have hpw := (List.pairwise_flatten.1 nf).2
          rw [List.pairwise_iff_getElem] at hpw
          rw [List.getD_eq_getElem?_getD, List.getElem?_eq_getElem hkb] at hc2
          rw [List.getD_eq_getElem?_getD, List.getElem?_eq_getElem hib] at hbi
          simp only [Option.getD_some] at hc2 hbi
          rcases Nat.lt_or_gt_of_ne hki with hlt | hgt
          · exact hpw k i hkb hib hlt c hc2 c hbi rfl
          · exact hpw i k hib hkb hgt c hbi c hc2 rfl
    · have hbb : base ≤ blk := (hr.hn _ _ _ hg hs (by simp) blk hbg).1
      exact (Below.refl _ _).setCell (p := ⟨blk, j, none⟩) hbb _
end

/-! ### Functions that hand back an own slice of rows in the place of the one that they were handed -/
/-- The function is handed the own slice of rows 'xss' (handle 0) and hands back one made of its memory and new memory. All else is as it was. -/
def AFnT (P : Program) (f : FuncId) (args : List AV) (T T2 : TypeId) (xss : List (List Int)) (Q : List (List Int) → Prop) : Prop :=
  HasBody P f ∧ ∀ base w g vs, base ≤ w.heap.size → Objs base w [g] [.sls T T2 xss] → vs.size = args.length → (∀ i : Nat, RV w (okOf [g] [.sls T T2 xss]) [g] (vs.getD i undef) (args.getD i .any)) →
    Calls P f vs w fun e w' => ∃ g' xss', e = .returned g'.v ∧ Q xss' ∧ RO base w' (fun _ => True) [g'] g' (.sls T T2 xss') ∧ (∀ b, b ∈ g'.bl → (b ∈ g.bl ∨ w.heap.size ≤ b) ∧ b < w'.heap.size) ∧ Below base w w' ∧ ∀ b, b < w.heap.size → b ∉ g.bl → w'.heap[b]? = w.heap[b]?

theorem AFnT.of {P : Program} {f : FuncId} {fn : Func} {c : Code} {args args' : List AV} {T T2 : TypeId} {xss : List (List Int)} {Q : List (List Int) → Prop} {n : Nat} (hf : P.funcs[f]? = some fn) (hb : fn.body = some c) (hnm : (fn.name == "runtime.NumGoroutine") = false) (hn : fn.ntmps - args.length = n) (ha : args' = args.map (AV.sh 1))
    (h : ∀ K, AWp P c (fun _ _ => False) (fun _ _ _ => False) (fun env os => ∃ env2 os2 k xss', Turns env os env2 os2 ∧ ResIs P fn env2 os2 (.own k) ∧ os2[k]? = some (.sls T T2 xss') ∧ Q xss' ∧ os2[0]? = some (.keep 1 K)) (Env.start args' n) [.keep 1 K, .sls T T2 xss]) :
    AFnT P f args T T2 xss Q := by
  refine ⟨⟨fn, c, hf, hnm, hb⟩, fun base w g vs hbase hO hsz hvs => calls_of_wp hf hb ?_⟩
  rw [show fn.ntmps - vs.size = n by rw [hsz]; exact hn]
  let bl : List Nat := (List.range w.heap.size).filter fun b => decide (base ≤ b) && !g.bl.contains b
  let gk : Gh := ⟨undef, 0, bl, []⟩
  let K : Kp := ⟨fun b => w.heap[b]?, [gk]⟩
  have hbl : ∀ b, b ∈ bl ↔ b < w.heap.size ∧ base ≤ b ∧ b ∉ g.bl := by
    intro b
    simp only [bl, List.mem_filter, List.mem_range, Bool.and_eq_true, decide_eq_true_eq, Bool.not_eq_true', List.contains_eq_mem, decide_eq_false_iff_not]
  have gg : ∀ {i : Nat} {x : Gh}, [gk, g][i]? = some x → (i = 0 ∧ x = gk) ∨ (i = 1 ∧ x = g) := by
    intro i x hx
    match i with
    | 0 => simp at hx; exact .inl ⟨rfl, hx.symm⟩
    | 1 => simp at hx; exact .inr ⟨rfl, hx.symm⟩
    | i + 2 => simp at hx
  have go : ∀ {i : Nat} {x : AO}, [AO.keep 1 K, AO.sls T T2 xss][i]? = some x → (i = 0 ∧ x = .keep 1 K) ∨ (i = 1 ∧ x = .sls T T2 xss) := by
    intro i x hx
    match i with
    | 0 => simp at hx; exact .inl ⟨rfl, hx.symm⟩
    | 1 => simp at hx; exact .inr ⟨rfl, hx.symm⟩
    | i + 2 => simp at hx
  have hkeep : Keeps (okOf [g] [.sls T T2 xss]) (okOf [gk, g] [.keep 1 K, .sls T T2 xss]) w w := by
    intro b hbk _
    refine ⟨fun i x y hx hy hny hm => ?_, rfl⟩
    rcases gg hx with ⟨rfl, rfl⟩ | ⟨rfl, rfl⟩
    · rcases go hy with ⟨_, rfl⟩ | ⟨h0, _⟩
      · exact hny.elim
      · omega
    · rcases go hy with ⟨h0, _⟩ | ⟨_, rfl⟩
      · omega
      · exact hbk 0 _ _ rfl rfl hny hm
  have hro0 := hO.ho 0 g _ rfl rfl
  have hn0 := hO.hn 0 g rfl
  have hrel : Rel base w [gk, g] (Env.start args' n) [.keep 1 K, .sls T T2 xss] (vs ++ Array.replicate n undef) := by
    refine ⟨hbase, rfl, by simp [Env.start, hsz, ha], fun i => start_rv args' n vs (fun i => ?_) i, ?_, ?_, ?_⟩
    · rw [ha, getD_map_any _ rfl]
      have := (hvs i).sh (gs0 := [gk]) hkeep
      exact this
    · intro i x y hx hy
      rcases gg hx with ⟨rfl, rfl⟩ | ⟨rfl, rfl⟩
      · rcases go hy with ⟨_, rfl⟩ | ⟨h0, _⟩
        · exact ⟨fun b _ => rfl, rfl, fun i x h => by
            match i with
            | 0 => exact h
            | i + 1 => simp [K] at h⟩
        · omega
      · rcases go hy with ⟨h0, _⟩ | ⟨_, rfl⟩
        · omega
        · exact AO.plain.ro trivial hro0
    · intro i j g1 g2 o1 o2 hij hg1 hg2 ho1 ho2 _ _ b hb1 hb2
      rcases gg hg1 with ⟨rfl, rfl⟩ | ⟨rfl, rfl⟩
      · rcases gg hg2 with ⟨rfl, rfl⟩ | ⟨rfl, rfl⟩
        · exact hij rfl
        · exact ((hbl b).1 hb1).2.2 hb2
      · rcases gg hg2 with ⟨rfl, rfl⟩ | ⟨rfl, rfl⟩
        · exact ((hbl b).1 hb2).2.2 hb1
        · exact hij rfl
    · intro i x y hx hy _ b hb
      rcases gg hx with ⟨rfl, rfl⟩ | ⟨rfl, rfl⟩
      · exact ⟨((hbl b).1 hb).2.1, ((hbl b).1 hb).1⟩
      · exact hn0 b hb
  refine wp_mono (h K base w w _ _ hrel (Below.refl _ _)) ?_
  intro e a w' hq
  cases e with
  | normal => obtain ⟨_, _, _, _, _, _, hx⟩ := hq; exact hx.elim
  | exit j => obtain ⟨_, _, _, _, _, _, hx⟩ := hq; exact hx.elim
  | ret =>
    obtain ⟨env, os1, gs1, hr1, hd, hbel, env2, os2, k, xss', ht, hres, hok, hQ, hkp⟩ := hq
    obtain ⟨gs2, hr⟩ := ht base w' gs1 _ hr1
    obtain ⟨v, hu, hv⟩ := hres _ _ _ _ hr
    cases hv with
    | @own _ g' hg' =>
      have hlt0 : 0 < gs2.length := by rw [hr.hl]; exact (List.getElem?_eq_some_iff.1 hkp).1
      obtain ⟨g0, hg0⟩ : ∃ g0, gs2[0]? = some g0 := ⟨_, List.getElem?_eq_getElem hlt0⟩
      obtain ⟨r1, r2, r3⟩ := hr.ho _ _ _ hg0 hkp
      have egk : g0 = gk := by
        have := r3 0 gk rfl
        rw [hg0] at this
        exact Option.some.inj this
      subst egk
      have hk0 : k ≠ 0 := fun e => by subst e; rw [hkp] at hok; cases hok
      refine ⟨hd, g'.v, hu, g', xss', rfl, hQ, AO.plain.ro trivial (hr.ho _ _ _ hg' hok), fun b hb => ?_, hbel, fun b hb hnot => ?_⟩
      · have hbn := hr.hn _ _ _ hg' hok (by simp) b hb
        refine ⟨?_, hbn.2⟩
        by_cases hbw : b < w.heap.size
        · left
          apply Classical.byContradiction
          intro hnb
          exact hr.hd k 0 g' _ _ _ hk0 hg' hg0 hok hkp (by simp) (by simp) b hb ((hbl b).2 ⟨hbw, hbn.1, hnb⟩)
        · right; omega
      · rcases Nat.lt_or_ge b base with h6 | h6
        · exact hbel.block b h6
        · exact r1 b ((hbl b).2 ⟨hb, h6, hnot⟩)
  | goto l => exact (hq : False).elim
  | panic ch => exact (hq : False).elim
  | outgrown => exact (hq : False).elim
theorem AFnT.start {P : Program} {f : FuncId} {fn : Func} {nt : Nat} {args : List AV} {T T2 : TypeId} {xss : List (List Int)} {Q : List (List Int) → Prop} (hf : P.funcs[f]? = some fn) (hnt : fn.ntmps = nt) {c : Code} (hb : fn.body = some c) (hnm : (fn.name == "runtime.NumGoroutine") = false)
    (h : ∀ K, AWp P c (fun _ _ => False) (fun _ _ _ => False) (fun env os => ∃ env2 os2 k xss', Turns env os env2 os2 ∧ ResIs P fn env2 os2 (.own k) ∧ os2[k]? = some (.sls T T2 xss') ∧ Q xss' ∧ os2[0]? = some (.keep 1 K)) (Env.start (args.map (AV.sh 1)) (nt - args.length)) [.keep 1 K, .sls T T2 xss]) :
    AFnT P f args T T2 xss Q := AFnT.of hf hb hnm (by rw [hnt]) rfl h

/-- All that hangs on handle 'h' is forgotten. -/
def AV.lose1 (h : Nat) : AV → AV
  | .own k => if k = h then .any else .own k
  | .optr k i => if k = h then .any else .optr k i
  | .osub k a b => if k = h then .any else .osub k a b
  | .orow k i => if k = h then .any else .orow k i
  | .orptr k i j => if k = h then .any else .orptr k i j
  | .agg _ => .any
  | .tup _ => .any
  | a => a
def AV.lose (h : Nat) : AV → AV
  | .own k => if k = h then .any else .own k
  | .optr k i => if k = h then .any else .optr k i
  | .osub k a b => if k = h then .any else .osub k a b
  | .orow k i => if k = h then .any else .orow k i
  | .orptr k i j => if k = h then .any else .orptr k i j
  | .agg l => .agg (l.map (AV.lose1 h))
  | .tup l => .tup (l.map (AV.lose1 h))
  | a => a
section
variable {w w' : World} {ok ok' : Nat → Prop} {gs : List Gh} {h : Nat} {g' : Gh}
theorem getD_map_lose1 (l : List AV) (i : Nat) : (l.map (AV.lose1 h)).getD i .any = (l.getD i .any).lose1 h := by
  simp only [List.getD_eq_getElem?_getD, List.getElem?_map]
  cases l[i]? <;> rfl
theorem RV.lose1 (k : Keeps ok ok' w w') {v : Value} {a : AV} (hv : RV w ok gs v a) : RV w' ok' (gs.set h g') v (a.lose1 h) := by
  have hg : ∀ {j : Nat} {x : Gh}, j ≠ h → gs[j]? = some x → (gs.set h g')[j]? = some x := fun hj hx => by
    rw [List.getElem?_set, if_neg (fun e => hj e.symm)]; exact hx
  cases hv with
  | any v => exact .any v
  | val v => exact .val v
  | ints h => exact .ints (h.mono k)
  | intss h => exact .intss (h.mono k)
  | @ro v r h => exact .ro (r.up k h)
  | iptr h h1 h2 => exact .iptr (h.mono k) h1 h2
  | iiptr h h1 h2 => exact .iiptr (h.mono k) h1 h2
  | own h1 =>
    simp only [AV.lose1]; split
    · exact .any _
    · exact .own (hg ‹_› h1)
  | optr h1 =>
    simp only [AV.lose1]; split
    · exact .any _
    · exact .optr (hg ‹_› h1)
  | osub h1 h2 h3 h4 =>
    simp only [AV.lose1]; split
    · exact .any _
    · exact .osub (hg ‹_› h1) h2 h3 h4
  | orow h1 h2 =>
    simp only [AV.lose1]; split
    · exact .any _
    · exact .orow (hg ‹_› h1) h2
  | orptr h1 h2 =>
    simp only [AV.lose1]; split
    · exact .any _
    · exact .orptr (hg ‹_› h1) h2
  | agg _ _ _ => exact .any _
  | tup _ _ => exact .any _
theorem RV.lose (k : Keeps ok ok' w w') {v : Value} {a : AV} (hv : RV w ok gs v a) : RV w' ok' (gs.set h g') v (a.lose h) := by
  have hg : ∀ {j : Nat} {x : Gh}, j ≠ h → gs[j]? = some x → (gs.set h g')[j]? = some x := fun hj hx => by
    rw [List.getElem?_set, if_neg (fun e => hj e.symm)]; exact hx
  cases hv with
  | any v => exact .any v
  | val v => exact .val v
  | ints h => exact .ints (h.mono k)
  | intss h => exact .intss (h.mono k)
  | @ro v r h => exact .ro (r.up k h)
  | iptr h h1 h2 => exact .iptr (h.mono k) h1 h2
  | iiptr h h1 h2 => exact .iiptr (h.mono k) h1 h2
  | own h1 =>
    simp only [AV.lose]; split
    · exact .any _
    · exact .own (hg ‹_› h1)
  | optr h1 =>
    simp only [AV.lose]; split
    · exact .any _
    · exact .optr (hg ‹_› h1)
  | osub h1 h2 h3 h4 =>
    simp only [AV.lose]; split
    · exact .any _
    · exact .osub (hg ‹_› h1) h2 h3 h4
  | orow h1 h2 =>
    simp only [AV.lose]; split
    · exact .any _
    · exact .orow (hg ‹_› h1) h2
  | orptr h1 h2 =>
    simp only [AV.lose]; split
    · exact .any _
    · exact .orptr (hg ‹_› h1) h2
  | agg h1 h3 h2 => exact .agg (by simpa using h1) h3 fun i => by rw [getD_map_lose1]; exact (h2 i).lose1 k
  | tup h1 h2 => exact .tup (by simpa using h1) fun i => by rw [getD_map_lose1]; exact (h2 i).lose1 k
end

section
variable {P : Program} {env : Env} {os : List AO} {d : Option Tmp} {ty : TypeId} {pos : String} {af : Array Edge} {g : Option (Nat × Bool)}
theorem c_callt {f : FuncId} {args : List AV} {T T2 : TypeId} {xss : List (List Int)} {Q : List (List Int) → Prop} (hc : AFnT P f args T T2 xss Q) {xs : List Operand} {ats : Array TypeId} {h : Nat} (hs : os[h]? = some (.sls T T2 xss)) (hi : ImmUs os [h] (xs.map (AV.ev env)) args) :
    COp P ⟨d, .call { callee := .value (.func f), args := xs.toArray, argTypes := ats }, ty, pos, af, g⟩ env os (fun r e o => ∃ xss', Q xss' ∧ r = .own h ∧ e = env.mp (AV.lose h) ∧ o = (((os ++ [AO.sli T2 []]).map (AO.via (AV.lose h) h)).set h (.sls T T2 xss')).set os.length .dead) := by
  intro base w gs tm hr
  have hh : Handed os [h] [.sls T T2 xss] := handed1 hs True.intro
  have hg := hi.get
  have hlt := hh.lt h (by simp)
  have hgl : h < gs.length := by rw [hr.hl]; exact hlt
  obtain ⟨gh, hgh⟩ : ∃ x, gs[h]? = some x := ⟨_, List.getElem?_eq_getElem hgl⟩
  have esel : selG gs [h] = [gh] := by simp [selG, hgh]
  have hobj := hr.objs hh
  rw [esel] at hobj
  refine ⟨f, _, run_call hc.1 xs ats _ rfl w, (hc.2 base w gh _ hr.hb hobj (by simpa using hg.1) fun i => ?_).mono ?_⟩
  · have h1 := hg.2 i
    have e1 : (xs.map (AV.ev env)).getD i .any = match xs[i]? with | some x => AV.ev env x | none => .any := by
      simp only [List.getD_eq_getElem?_getD, List.getElem?_map]; cases xs[i]? <;> rfl
    have e2 : (xs.map (Act.eval ⟨tm, []⟩)).toArray.getD i undef = match xs[i]? with | some x => Act.eval ⟨tm, []⟩ x | none => undef := by
      simp only [Array.getD_eq_getD_getElem?, List.getElem?_toArray, List.getElem?_map]; cases xs[i]? <;> rfl
    rw [e1] at h1
    rw [e2, ← esel]
    cases hx : xs[i]? with
    | some x => rw [hx] at h1; exact h1.rv hr hh (hr.ev x)
    | none => rw [hx] at h1; exact h1.rv hr hh (.any _)
  · rintro e w' ⟨g', xss', rfl, hq, hro, hbl, hbel, hfr⟩
    let gd : Gh := ⟨.slice none 0 0, 0, [], []⟩
    have hr1 : Rel base w (gs ++ [gd]) env (os ++ [.sli T2 []]) tm := hr.new (Below.refl _ _) (.sli T2 []) gd (fun _ b hb => by simp [gd] at hb) ⟨World.ownsRow_nil w base T2 1, fun x hx => by simp at hx, .inl ⟨rfl, rfl⟩⟩
    have hg1 : (gs ++ [gd])[h]? = some gh := by rw [List.getElem?_append_left hgl]; exact hgh
    have hs1 : (os ++ [AO.sli T2 []])[h]? = some (.sls T T2 xss) := by rw [List.getElem?_append_left hlt]; exact hs
    have hgd : (gs ++ [gd])[os.length]? = some gd := by rw [← hr.hl]; simp
    have hod : (os ++ [AO.sli T2 []])[os.length]? = some (.sli T2 []) := by simp
    refine ⟨g'.v, .own h, _, _, (gs ++ [gd]).set h g', rfl, ⟨xss', hq, rfl, rfl, rfl⟩, hr1.absorb hg1 hs1 trivial hgd hod trivial (by omega) g' _ (AV.lose h) rfl hfr hbel.size ?_ (fun kp hv => hv.lose kp) (fun _ => AO.plain.ro trivial hro), .own (by rw [List.getElem?_set_self (by rw [List.length_append]; omega)]), hbel⟩
    intro b hb
    have := hbl b hb
    refine ⟨?_, this.2⟩
    rcases this.1 with h1 | h1
    · exact .inl h1
    · exact .inr (.inr h1)
end

section
variable {P : Program} {env : Env} {os : List AO} {d : Tmp} {ty : TypeId} {pos : String} {af : Array Edge} {g : Option (Nat × Bool)} {l rest : List Oper} {K : APost} {q : Md}
theorem w_callt {f : FuncId} {args : List AV} {T T2 : TypeId} {xss : List (List Int)} {Q : List (List Int) → Prop} {xs : List Operand} {ats : Array TypeId} (h : Nat) {m : Nat} (hc : AFnT P f args T T2 xss Q) (hs : os[h]? = some (.sls T T2 xss)) (hm : os.length = m) (hi : ImmUs os [h] (xs.map (AV.ev env)) args)
    (h' : ∀ xss', Q xss' → AOps P .seq l rest K (Env.up (env.mp (AV.lose h)) d (.own h)) ((((os ++ [AO.sli T2 []]).map (AO.via (AV.lose h) h)).set h (.sls T T2 xss')).set m .dead)) :
    AOps P .seq l (⟨some d, .call { callee := .value (.func f), args := xs.toArray, argTypes := ats }, ty, pos, af, none⟩ :: rest) K env os :=
  AOps.ca (c_callt hc hs hi) fun r e o ⟨xss', h1, h2, h3, h4⟩ => by subst h2; subst h3; subst h4; subst hm; exact h' xss' h1
theorem w_slshi {t e : TypeId} [TSlice P t e] [TCell P e] {x y : Operand} {h : Nat} {e' e2 : TypeId} {xss : List (List Int)} {n : Int} (hw : wantedA l env ⟨some d, .slice t x none (some y) none, ty, pos, af, g⟩ = some true) (hx : evo env x = some (.own h)) (hs : os[h]? = some (.sls e' e2 xss)) (hy : evo env y = some (.i n)) (h0 : 0 ≤ n) (h1 : n ≤ xss.length)
    (h' : AOps P q l rest K (env.up d (.osub h 0 n.toNat)) os) : AOps P q l (⟨some d, .slice t x none (some y) none, ty, pos, af, g⟩ :: rest) K env os := AOps.qo hw (q_sls_hi (ev_of hx) hs (ev_of hy) h0 h1) h'
theorem w_slslo {t e : TypeId} [TSlice P t e] [TCell P e] {x y : Operand} {h : Nat} {e' e2 : TypeId} {xss : List (List Int)} {n : Int} (hw : wantedA l env ⟨some d, .slice t x (some y) none none, ty, pos, af, g⟩ = some true) (hx : evo env x = some (.own h)) (hs : os[h]? = some (.sls e' e2 xss)) (hy : evo env y = some (.i n)) (h0 : 0 ≤ n) (h1 : n ≤ xss.length)
    (h' : AOps P q l rest K (env.up d (.osub h n.toNat (xss.length - n.toNat))) os) : AOps P q l (⟨some d, .slice t x (some y) none none, ty, pos, af, g⟩ :: rest) K env os := AOps.qo hw (q_sls_lo (ev_of hx) hs (ev_of hy) h0 h1) h'
theorem w_bslr0 {t e : TypeId} {bytes : Nat} [TSlice P t e] [TElem P e (.slice none 0 0) bytes] {m : Nat} (hm : os.length = m) (h' : AOps P .seq l rest K (env.up d (.own m)) (os ++ [.slr e []])) :
    AOps P .seq l (⟨some d, .buildSlice t 0 #[], ty, pos, af, none⟩ :: rest) K env os := AOps.lo (hm ▸ l_bslr0) h'
theorem w_bslr1 {t e : TypeId} {bytes : Nat} [TSlice P t e] [TElem P e (.slice none 0 0) bytes] {x : Operand} {k m : Nat} {e3 : TypeId} {ys : List Int} (hx : evo env x = some (.own k)) (hk : os[k]? = some (.sli e3 ys)) (hm : os.length = m)
    (h' : AOps P .seq l rest K (env.up d (.own m)) (os ++ [.slr e [.own k]])) : AOps P .seq l (⟨some d, .buildSlice t 1 #[(0, x)], ty, pos, af, none⟩ :: rest) K env os := AOps.lo (hm ▸ l_bslr1 (ev_of hx) hk) h'
theorem w_appsub {t e : TypeId} {bytes : Nat} [TSlice P t e] [TElem P e (.slice none 0 0) bytes] {x y : Operand} {p h off len : Nat} {e' e1 e2 : TypeId} {xss : List (List Int)} {avs : List AV}
    (hx : evo env x = some (.own p)) (hs : os[p]? = some (.slr e' avs)) (hee : e' = e) (hy : evo env y = some (.osub h off len)) (hh : os[h]? = some (.sls e1 e2 xss)) (hle : off + len ≤ xss.length) (hb : (avs.length + len) * bytes ≤ 140737488355328) (hk : avs.map (AV.kill p) = avs)
    (h' : AOps P .seq l rest K (Env.up (env.mp (AV.kill p)) d (.own p)) ((os.map (AO.kill p)).set p (.slr e (avs ++ (List.range' off len).map (AV.orow h))))) :
    AOps P .seq l (⟨some d, .call { callee := .builtin .append, args := #[x, y], argTypes := #[t, t] }, ty, pos, af, none⟩ :: rest) K env os := AOps.lo (l_append_src (ev_of hx) hs hee (src_sub (ev_of hy) hh hle) (by simpa using hb) hk (map_orow_kill p h _)) h'
theorem w_appslr {t e : TypeId} {bytes : Nat} [TSlice P t e] [TElem P e (.slice none 0 0) bytes] {x y : Operand} {p h : Nat} {e' e1 : TypeId} {avs avs2 : List AV}
    (hx : evo env x = some (.own p)) (hs : os[p]? = some (.slr e' avs)) (hee : e' = e) (hy : evo env y = some (.own h)) (hh : os[h]? = some (.slr e1 avs2)) (hok : RowsOk os avs2) (hb : (avs.length + avs2.length) * bytes ≤ 140737488355328) (hk : avs.map (AV.kill p) = avs) (hk2 : avs2.map (AV.kill p) = avs2)
    (h' : AOps P .seq l rest K (Env.up (env.mp (AV.kill p)) d (.own p)) ((os.map (AO.kill p)).set p (.slr e (avs ++ avs2)))) :
    AOps P .seq l (⟨some d, .call { callee := .builtin .append, args := #[x, y], argTypes := #[t, t] }, ty, pos, af, none⟩ :: rest) K env os := AOps.lo (l_append_src (ev_of hx) hs hee (src_slr (ev_of hy) hh hok) hb hk hk2) h'
theorem w_storp {t : TypeId} [TCell P t] {x y : Operand} {h i j : Nat} {e e2 : TypeId} {xss : List (List Int)} {n : Int} (hx : evo env x = some (.orptr h i j)) (hs : os[h]? = some (.sls e e2 xss)) (hi : i < xss.length) (hj : j < (xss.getD i []).length) (hy : evo env y = some (.i n)) (hn : inI n)
    (h' : AOps P .seq l rest K env (os.set h (.sls e e2 (xss.set i ((xss.getD i []).set j n))))) : AOps P .seq l (⟨none, .store t x y, ty, pos, af, none⟩ :: rest) K env os := AOps.so (l_store_orptr (ev_of hx) hs hi hj (ev_of hy) hn) h'
theorem w_bs3 {t e : TypeId} {bytes : Nat} [TSlice P t e] [TElem P e (.int .i64 0) bytes] {x y z : Operand} {a b c : Int} {m : Nat} (hx : evo env x = some (.i a)) (hy : evo env y = some (.i b)) (hz : evo env z = some (.i c)) (hm : os.length = m) (ha : inI a) (hb : inI b) (hc : inI c)
    (h' : AOps P .seq l rest K (env.up d (.own m)) (os ++ [.sli e [a, b, c]])) : AOps P .seq l (⟨some d, .buildSlice t 3 #[(0, x), (1, y), (2, z)], ty, pos, af, none⟩ :: rest) K env os := AOps.lo (hm ▸ l_bs3 (ev_of hx) (ev_of hy) (ev_of hz) ha hb hc) h'
end
end Go.Proofs.Ytifkgmbghcmdeaa
/-
  Maps from pairs of integers to integers: made, read, written, walked in whatever order. No condition.
-/
namespace Go.Proofs.Ytifkgmbghcmdeaa
open Go Go.RowKit
open Go.ChangeMaps (setBlock)

def mkey (i j : Int) : Value := .agg #[.int .i64 i, .int .i64 j]
/-- Pairs of integers as keys. -/
class TPair (P : Program) (kt : TypeId) (e : outParam TypeId) : Prop where
  hk : P.underlying kt = some (.array 2 e)
  he : P.underlying e = some (.int .i64)
  hi : ∃ ii, P.info? e = some ii
  hs : P.cellsOf e = 1
instance {P : Program} {kt e : TypeId} [h : TArr P kt e 2] [q : TKind P e .i64] : TPair P kt e := ⟨h.und, q.und, let ⟨i, h1, _⟩ := h.elm; ⟨i, h1⟩, by obtain ⟨i, h1, h2⟩ := h.elm; simp [Program.cellsOf, h1, h2]⟩
variable {P : Program}
/-! ### Maps from pairs to integers, as lists of triples in the order of their first writing -/
def entT (t : Int × Int × Int) : Value × Value := (mkey t.1 t.2.1, .int .i64 t.2.2)
def MapIs (es : Array MapEntry) (clock : Nat) (L : List (Int × Int × Int)) : Prop :=
  es.toList.map (fun e => (e.key, e.val)) = L.map entT ∧ (∀ e ∈ es.toList, e.born < clock) ∧ (es.toList.map (·.born)).Nodup
theorem keys_get {es : Array MapEntry} {L : List (Int × Int × Int)} (h : es.toList.map (fun e => (e.key, e.val)) = L.map entT) (k : Nat) (hk : k < L.length) :
    ∃ x, es[k]? = some x ∧ x.key = mkey (L.getD k (0, 0, 0)).1 (L.getD k (0, 0, 0)).2.1 ∧ x.val = .int .i64 (L.getD k (0, 0, 0)).2.2 := by
  have h1 := congrArg (·[k]?) h
  simp only [List.getElem?_map, List.getElem?_eq_getElem hk, Option.map_some, Array.getElem?_toList] at h1
  cases hx : es[k]? with
  | none => rw [hx] at h1; simp at h1
  | some x =>
    rw [hx] at h1
    simp only [Option.map_some, Option.some.injEq, entT, Prod.mk.injEq] at h1
    exact ⟨x, rfl, by rw [h1.1]; simp [List.getD_eq_getElem?_getD, hk], by rw [h1.2]; simp [List.getD_eq_getElem?_getD, hk]⟩
theorem size_of {es : Array MapEntry} {L : List (Int × Int × Int)} (h : es.toList.map (fun e => (e.key, e.val)) = L.map entT) : es.size = L.length := by
  have := congrArg List.length h
  simpa using this

theorem run_setmap {w : World} {r : Nat} {es : Array MapEntry} {c : Nat} (hr : w.heap[r]? = some (.map es c)) (o' : Obj) : (setObj r o').run P w = .ok () (setBlock w r o') := by
  simp [setObj, Sem.run, hr, setBlock]
/-! ### As objects, and as what is only read -/
def mapRo (L : List (Int × Int × Int)) : Ro where
  p w ok v := ∃ b es clock, v = .map (some b) ∧ ok b ∧ w.heap[b]? = some (.map es clock) ∧ MapIs es clock L
  up k h := by
    obtain ⟨b, es, clock, h1, h2, h3, h4⟩ := h
    have := k b h2 (Array.getElem?_eq_some_iff.1 h3).1
    exact ⟨b, es, clock, h1, this.1, this.2.trans h3, h4⟩
def mapAt (b : Nat) (es : Array MapEntry) (clock : Nat) : Ro where
  p w ok v := v = .map (some b) ∧ ok b ∧ w.heap[b]? = some (.map es clock)
  up k h := by
    obtain ⟨h1, h2, h3⟩ := h
    have := k b h2 (Array.getElem?_eq_some_iff.1 h3).1
    exact ⟨h1, this.1, this.2.trans h3⟩
def bornAt (es : Array MapEntry) (i : Nat) : Nat := ((es[i]?).map (·.born)).getD 0
/-- An iterator over the map at b, which has handed out the entries 'done'. -/
def itOb (b : Nat) (es : Array MapEntry) (clock : Nat) (done : List Nat) : Ob :=
  ob1 (fun r => .pointer (some ⟨r, 0, none⟩)) (fun o => ∃ since c0 seen, o = .mapIter (some b) since seen c0 ∧ since ≤ c0 ∧ (∀ x ∈ es.toList, x.born < since) ∧ seen.toList = done.map (bornAt es) ∧ (done = [] ∨ c0 = clock) ∧ since ≤ clock) fun _ => ⟨rfl, rfl⟩

/-- A slot may be seen otherwise. -/
theorem Rel.see {base : Nat} {w : World} {gs : List Gh} {env : Env} {os : List AO} {tm : Array Value} (h : Rel base w gs env os tm) {k : Nat} {a : AV} (ha : RV w (okOf gs os) gs (tm.getD k undef) a) : Rel base w gs (env.up k a) os tm where
  hb := h.hb
  hl := h.hl
  hs := by simpa [Env.up] using h.hs
  he i := by
    rw [Env.lk_up]
    split
    · rename_i hi; rw [hi.1]; exact ha
    · exact h.he i
  ho := h.ho
  hd := h.hd
  hn := h.hn

section
variable {P : Program} {wl : Bool} {env : Env} {os : List AO} {d : Option Tmp} {ty : TypeId} {pos : String} {af : Array Edge} {g : Option (Nat × Bool)}

theorem AWp.open {c : Code} {N : Env → List AO → Prop} {X : Nat → Env → List AO → Prop} {Rt : Env → List AO → Prop} (k : Nat) {L : List (Int × Int × Int)} (hk : env.fd k = some (.ro (mapRo L)))
    (h : ∀ b es clock, MapIs es clock L → AWp P c N X Rt (env.up k (.ro (mapAt b es clock))) os) : AWp P c N X Rt env os := by
  intro base w0 w gs tm hr
  have hv := hr.he k
  rw [Env.lk_of hk] at hv
  generalize hu : tm.getD k undef = u at hv
  cases hv with
  | ro h1 =>
    obtain ⟨b, es, clock, e1, e2, e3, hM⟩ := h1
    exact h b es clock hM base w0 w gs tm (hr.see (by rw [hu]; exact .ro ⟨e1, e2, e3⟩))

theorem Ret1.ob {h : Nat} {q : Ob} (hs : os[h]? = some (.ob q)) : Ret1 os (.own h) (.own 0) [.ob q] := fun base w gs env tm hr u hu => by
  cases hu with
  | @own _ g hg => exact ⟨[g], .one (hr.ho _ _ _ hg hs) fun b hb => hr.hn _ _ _ hg hs (by simp) b hb, .own rfl⟩

theorem map_at {base : Nat} {w : World} {gs : List Gh} {tm : Array Value} (hr : Rel base w gs env os tm) {x : Operand} {b : Nat} {es : Array MapEntry} {clock : Nat} (hx : AV.ev env x = .ro (mapAt b es clock)) :
    Act.eval ⟨tm, []⟩ x = .map (some b) ∧ okOf gs os b ∧ w.heap[b]? = some (.map es clock) := by
  have h := hr.ev x
  rw [hx] at h
  generalize Act.eval ⟨tm, []⟩ x = v at h
  cases h with
  | ro h1 => exact h1

theorem setBlock_other (w : World) (r c : Nat) (o : Obj) (h : c ≠ r) : (setBlock w r o).heap[c]? = w.heap[c]? := by
  simp only [setBlock]
  rw [Array.getElem?_setIfInBounds, if_neg (fun e => h e.symm)]
theorem setBlock_same (w : World) (r : Nat) (o : Obj) (h : r < w.heap.size) : (setBlock w r o).heap[r]? = some o := by
  simp only [setBlock]
  rw [Array.getElem?_setIfInBounds, if_pos rfl, if_pos h]
theorem setBlock_below {w w1 : World} {base r : Nat} {o : Obj} (h1 : w1 = w ∨ w1 = w.drew) (hr : base ≤ r) : Below base w (setBlock w1 r o) := by
  have : Below base w w1 := by rcases h1 with rfl | rfl; exact Below.refl _ _; exact (Below.refl _ _).drew
  exact ⟨this.os, this.tape, this.output, by simpa [setBlock] using this.size, fun k hk => by rw [setBlock_other _ _ _ _ (by omega)]; exact this.block k hk⟩

theorem born_inj {es : Array MapEntry} {clock : Nat} {L : List (Int × Int × Int)} (hM : MapIs es clock L) {i j : Nat} (hi : i < L.length) (hj : j < L.length) (h : bornAt es i = bornAt es j) : i = j := by
  obtain ⟨x, hx, _⟩ := keys_get hM.1 i hi
  obtain ⟨y, hy, _⟩ := keys_get hM.1 j hj
  simp only [bornAt, hx, hy, Option.map_some, Option.getD_some] at h
  have hn := hM.2.2
  have hs := size_of hM.1
  have gi : (es.toList.map (·.born))[i]? = some x.born := by simp [hx]
  have gj : (es.toList.map (·.born))[j]? = some y.born := by simp [hy]
  exact (List.getElem?_inj (by simp; omega) hn).1 (gi.trans (by rw [h]; exact gj.symm))

/-- One round of a loop over a map begins, or the loop ends. -/
theorem AOps.next {l rest : List Oper} {K : APost} {d : Tmp} {it : Operand} {h : Nat} {b : Nat} {es : Array MapEntry} {clock : Nat} {done : List Nat} {L : List (Int × Int × Int)} (m : Operand) (hM : MapIs es clock L) (hdone : ∀ i ∈ done, i < L.length)
    (hx : evo env it = some (.own h)) (hs : os[h]? = some (.ob (itOb b es clock done))) (hm : evo env m = some (.ro (mapAt b es clock)))
    (h0 : (∀ i, i < L.length → i ∈ done) → AOps P .seq l rest K (env.up d (.val (.tuple #[.bool false]))) os)
    (h1 : ∀ i, i < L.length → i ∉ done → AOps P .seq l rest K (env.up d (.val (.tuple #[.bool true, mkey (L.getD i (0, 0, 0)).1 (L.getD i (0, 0, 0)).2.1, .int .i64 (L.getD i (0, 0, 0)).2.2]))) (os.set h (.ob (itOb b es clock (done ++ [i]))))) :
    AOps P .seq l (⟨some d, .next it false, ty, pos, af, none⟩ :: rest) K env os := by
  intro base w0 w gs tm hr hb X Rt
  obtain ⟨_, hok, hmap⟩ := map_at hr (ev_of hm)
  have hh := hr.ev it
  rw [ev_of hx] at hh
  generalize hu : Act.eval ⟨tm, []⟩ it = u at hh
  cases hh with
  | @own _ gh hg =>
    obtain ⟨o, a1, ⟨since, c0, seen, rfl, q1, q2, q3, q4, q5⟩, a3, a4, a5⟩ := hr.ho _ _ _ hg hs
    have e5 : gh.v = .pointer (some ⟨gh.b, 0, none⟩) := a5
    have hlt : gh.b < w.heap.size := (Array.getElem?_eq_some_iff.1 a1).1
    have mem_seen : ∀ i, i < L.length → (bornAt es i ∈ seen.toList ↔ i ∈ done) := by
      intro i hi
      rw [q3, List.mem_map]
      constructor
      · rintro ⟨j, hj, e⟩
        have := born_inj hM (hdone j hj) hi e
        rwa [← this]
      · intro hi2; exact ⟨i, hi2, rfl⟩
    refine wpList_plain rfl fun K hK => ?_
    unfold Oper.wp
    rcases run_next_at (P := P) w ty gh.b b since c0 seen es clock a1 hmap q2 q1 with ⟨hz, hrun⟩ | ⟨e, he, w1, hw1, hrun⟩
    · have hrun' : (execOp (Act.eval ⟨tm, []⟩) ⟨some d, .next it false, ty, pos, af, none⟩).run P w = .ok (.value (.tuple #[.bool false])) w := by
        simp only [execOp, hu, e5, Sem.run_bind, hrun, Result.andThen_ok, Sem.run_pure]
      rw [hrun']
      refine hK _ _ (h0 (fun i hi => ?_) base w0 w gs _ (hr.put (.val _) d) hb X Rt)
      obtain ⟨x, hxe, _⟩ := keys_get hM.1 i hi
      have hnil : leftOf es seen = #[] := Array.eq_empty_of_size_eq_zero hz
      unfold leftOf at hnil
      rw [Array.filter_eq_empty_iff] at hnil
      have := hnil x (Array.mem_of_getElem? hxe)
      simp only [Bool.not_eq_true, Bool.not_eq_false', Array.contains_eq_mem, decide_eq_true_eq] at this
      refine (mem_seen i hi).1 ?_
      simpa [bornAt, hxe] using this
    · unfold leftOf at he
      simp only [Array.mem_toList_iff, Array.mem_filter, Bool.not_eq_true', Array.contains_eq_mem, decide_eq_false_iff_not] at he
      obtain ⟨hmem, hns⟩ := he
      obtain ⟨i, hi⟩ := Array.getElem?_of_mem hmem
      have hiL : i < L.length := by
        have := (Array.getElem?_eq_some_iff.1 hi).1
        have := size_of hM.1
        omega
      obtain ⟨x, hxe, k1, k2⟩ := keys_get hM.1 i hiL
      have ex : x = e := Option.some.inj (hxe.symm.trans hi)
      subst ex
      have hnd : i ∉ done := fun hc => hns (by have := (mem_seen i hiL).2 hc; simpa [bornAt, hxe] using this)
      have hrun' : (execOp (Act.eval ⟨tm, []⟩) ⟨some d, .next it false, ty, pos, af, none⟩).run P w = .ok (.value (.tuple #[.bool true, mkey (L.getD i (0, 0, 0)).1 (L.getD i (0, 0, 0)).2.1, .int .i64 (L.getD i (0, 0, 0)).2.2])) (setBlock w1 gh.b (.mapIter (some b) since (seen.push x.born) clock)) := by
        simp only [execOp, hu, e5, Sem.run_bind, hrun, Result.andThen_ok, Sem.run_pure, k1, k2]
      rw [hrun']
      have hw1h : w1.heap = w.heap := by rcases hw1 with rfl | rfl <;> rfl
      refine hK _ _ (h1 i hiL hnd base w0 _ gs _ ((hr.upd hg hs trivial (.ob (itOb b es clock (done ++ [i]))) trivial (fun c _ hc => ?_) ?_ fun _ => ?_).put (.val _) d) (hb.trans (setBlock_below hw1 a3)) X Rt)
      · rw [setBlock_other _ _ _ _ (fun e => hc (by rw [a4, e]; simp)), hw1h]
      · simp [setBlock, hw1h]
      · exact ⟨_, setBlock_same _ _ _ (by rw [hw1h]; exact hlt), ⟨since, clock, seen.push x.born, rfl, q5, q2, by simp [q3, bornAt, hxe], .inr rfl, q5⟩, a3, a4, a5⟩

variable {l rest : List Oper} {K : APost} {q : Md}
end
end Go.Proofs.Ytifkgmbghcmdeaa
/-
  Maps from numbers to rows, all of it own memory; functions that write to such an object in its place. No condition.
-/
namespace Go.Proofs.Ytifkgmbghcmdeaa
open Go Go.RowKit
open Go.ChangeMaps (setBlock)

abbrev Rws := List (Int × List Int)
def rwAt (L : Rws) (i : Nat) : List Int := (L.getD i (0, [])).2
def fndR (L : Rws) (k : Int) : Option Nat := L.findIdx? fun t => decide (t.1 = k)
/-- A map from numbers to rows; 'pb': the block in which it lies, if that is to be known. -/
def EchP (pb : Option Nat) (e2 : TypeId) (L : Rws) (base : Nat) (w : World) (g : Gh) : Prop :=
  ∃ (es : Array MapEntry) (clock : Nat) (vs : List Value) (bs : List (List Nat)), w.heap[g.b]? = some (.map es clock) ∧ base ≤ g.b ∧ g.v = .map (some g.b) ∧ (∀ b, pb = some b → g.b = b) ∧
    es.toList.map (fun e => (e.key, e.val)) = List.zipWith (fun (t : Int × List Int) (v : Value) => (Value.int .i64 t.1, v)) L vs ∧ vs.length = L.length ∧ bs.length = L.length ∧ g.rows = vs ∧
    (∀ (i : Nat) u, vs[i]? = some u → w.ownsRow base e2 1 u (rwAt L i).length ((rwAt L i).map (Value.int .i64)) ∧ (∀ x ∈ rwAt L i, inI x) ∧ u.ownBlock.toList = bs.getD i []) ∧
    g.bl = [g.b] ++ bs.flatten ∧ g.bl.Nodup
theorem ech_row {bs : List (List Nat)} {b i : Nat} {l : List Nat} {u : Value} (hbl : l = [b] ++ bs.flatten) (h : u.ownBlock.toList = bs.getD i []) (hi : i < bs.length) {c : Nat} (hc : u.ownBlock = some c) : c ∈ l := by
  rw [hbl]
  refine List.mem_append.2 (.inr (List.mem_flatten.2 ⟨bs.getD i [], ?_, by rw [← h, hc]; simp⟩))
  rw [List.getD_eq_getElem?_getD, List.getElem?_eq_getElem hi]
  simp
def echOb (pb : Option Nat) (e2 : TypeId) (L : Rws) : Ob where
  p := EchP pb e2 L
  up {base w w' g} hb h := by
    obtain ⟨es, clock, vs, bs, h1, h2, h3, h3', h4, h5, h6, h7, h8, h9, h10⟩ := h
    refine ⟨es, clock, vs, bs, by rw [hb g.b (by rw [h9]; simp)]; exact h1, h2, h3, h3', h4, h5, h6, h7, fun i u hu => ?_, h9, h10⟩
    obtain ⟨r1, r2, r3⟩ := h8 i u hu
    have hi := (List.getElem?_eq_some_iff.1 hu).1
    exact ⟨ownsRow_of_block r1 fun c hc => hb c (ech_row h9 r3 (by omega) hc), r2, r3⟩
  lower hl h := by
    obtain ⟨es, clock, vs, bs, h1, h2, h3, h3', h4, h5, h6, h7, h8, h9, h10⟩ := h
    refine ⟨es, clock, vs, bs, h1, Nat.le_trans hl h2, h3, h3', h4, h5, h6, h7, fun i u hu => ?_, h9, h10⟩
    obtain ⟨r1, r2, r3⟩ := h8 i u hu
    refine ⟨⟨r1.1, r1.2.imp id ?_⟩, r2, r3⟩
    rintro ⟨g, cap, cur, e1, e2, r⟩
    exact ⟨g, cap, cur, e1, Nat.le_trans hl e2, r⟩
  one h := by
    obtain ⟨es, clock, vs, bs, h1, h2, h3, _⟩ := h
    rw [h3]; exact ⟨rfl, rfl⟩
theorem ech_pin {pb : Option Nat} {e2 : TypeId} {L : Rws} {base : Nat} {w : World} {g : Gh} (h : (echOb pb e2 L).p base w g) : (echOb (some g.b) e2 L).p base w g := by
  obtain ⟨es, clock, vs, bs, h1, h2, h3, h3', r⟩ := h
  exact ⟨es, clock, vs, bs, h1, h2, h3, fun b hb => by cases hb; rfl, r⟩
theorem ech_unpin {b : Nat} {e2 : TypeId} {L : Rws} {base : Nat} {w : World} {g : Gh} (h : (echOb (some b) e2 L).p base w g) : (echOb none e2 L).p base w g ∧ g.b = b ∧ g.v = .map (some b) := by
  obtain ⟨es, clock, vs, bs, h1, h2, h3, h3', r⟩ := h
  have := h3' b rfl
  exact ⟨⟨es, clock, vs, bs, h1, h2, h3, fun b hb => (by cases hb), r⟩, this, by rw [← this]; exact h3⟩

section
variable {P : Program}
theorem run_echfind {kt : TypeId} [hk : TKind P kt .i64] (k : Int) (w : World) (es : List MapEntry) (L : Rws) (vs : List Value) (hl : vs.length = L.length)
    (h : es.map (fun e => (e.key, e.val)) = List.zipWith (fun (t : Int × List Int) (v : Value) => (Value.int .i64 t.1, v)) L vs) :
    (Instr.findKey kt (.int .i64 k) es).run P w = .ok (match fndR L k with | some i => some (i, vs.getD i undef) | none => none) w := by
  have key : ∀ (es : List MapEntry) (L : Rws) (vs : List Value) (n : Nat), vs.length = L.length → es.map (fun e => (e.key, e.val)) = List.zipWith (fun (t : Int × List Int) (v : Value) => (Value.int .i64 t.1, v)) L vs →
      Instr.findNow (.int .i64) (.int .i64 k) es n = some (match fndR L k with | some i => some (n + i, vs.getD i undef) | none => none) := by
    intro es
    induction es with
    | nil =>
      intro L vs n hl h
      match L, vs, hl with
      | [], [], _ => rfl
      | a :: L, b :: vs, _ => simp at h
    | cons x es ih =>
      intro L vs n hl h
      match L, vs, hl with
      | [], [], _ => simp at h
      | a :: L, b :: vs, hl =>
        simp only [List.map_cons, List.zipWith_cons_cons, List.cons.injEq, Prod.mk.injEq] at h
        obtain ⟨⟨h1, h2⟩, h3⟩ := h
        simp only [Instr.findNow, h1, Instr.sameNow, if_true]
        unfold fndR
        rw [List.findIdx?_cons]
        by_cases e : a.1 = k
        · have : (k == a.1) = true := by simp [e]
          simp [e, h2]
        · have : (k == a.1) = false := by simp; exact fun e' => e e'.symm
          have ih' := ih L vs (n + 1) (by simpa using hl) h3
          simp only [this, ih', e, decide_false, Bool.false_eq_true, if_false]
          unfold fndR
          cases L.findIdx? fun t => decide (t.1 = k) with
          | none => rfl
          | some i => simp [Nat.add_comm, Nat.add_left_comm]
  unfold Instr.findKey
  have := key es L vs 0 hl h
  simp only [Nat.zero_add] at this
  simp only [Sem.run_bind, run_underlying hk.und, Result.andThen_ok, this, Sem.run_pure]
theorem run_echcheck {kt : TypeId} [hk : TKind P kt .i64] (c : Bool) (k : Int) (w : World) : (Instr.checkKey c 10000 kt (.int .i64 k)).run P w = .ok () w := by
  rw [show (10000 : Nat) = 9999 + 1 from rfl]
  unfold Instr.checkKey
  simp only [Sem.run_bind, run_underlying hk.und, Result.andThen_ok, Sem.run_pure]
end

section
variable {P : Program} {wl : Bool} {env : Env} {os : List AO} {d : Option Tmp} {ty : TypeId} {pos : String} {af : Array Edge} {g : Option (Nat × Bool)}

theorem l_echmake {T kt ve e2 : TypeId} [TMap P T kt ve] [TSlice P ve e2] : LOp P ⟨d, .makeMap T none, ty, pos, af, g⟩ env os (.own os.length) env (os ++ [.ob (echOb none e2 [])]) := by
  intro base w gs tm hr
  refine ⟨.map (some w.heap.size), w.alloc (.map #[] 0), gs ++ [⟨.map (some w.heap.size), w.heap.size, [w.heap.size], []⟩], .inl ?_, hr.new (below_alloc w _) _ _ (fun _ b hb => by simp at hb; simp [hb]) ?_, ?_, (below_alloc w _).mono hr.hb⟩
  · simp [execOp, Instr.makeMap]
  · exact ⟨#[], 0, [], [], heap_alloc_new w _, hr.hb, rfl, fun b hb => (by cases hb), rfl, rfl, rfl, rfl, fun i u hu => (by simp at hu), rfl, by simp⟩
  · have := RV.own (w := w.alloc (.map #[] 0)) (ok := okOf (gs ++ [⟨.map (some w.heap.size), w.heap.size, [w.heap.size], []⟩]) (os ++ [.ob (echOb none e2 [])])) (len_new (gs := gs) (g := ⟨.map (some w.heap.size), w.heap.size, [w.heap.size], []⟩))
    rw [hr.hl] at this
    exact this

/-- A row that is there. -/
theorem q_echhit {T kt ve : TypeId} [hT : TMap P T kt ve] [TKind P kt .i64] {m k : Operand} {h i : Nat} {pb : Option Nat} {e2 : TypeId} {L : Rws} {n : Int} (hm : AV.ev env m = .own h) (hs : os[h]? = some (.ob (echOb pb e2 L))) (hk : AV.ev env k = .i n) (hf : fndR L n = some i) :
    QOp P false ⟨d, .lookup T m k true, ty, pos, af, g⟩ env os (.tup [.orow h i, .b true]) :=
  .of_runb fun base w gs tm hr => by
    have hh := hr.ev m
    rw [hm] at hh
    generalize hu : Act.eval ⟨tm, []⟩ m = u at hh
    cases hh with
    | @own _ gh hg =>
      obtain ⟨es, clock, vs, bs, h1, h2, h3, h3', h4, h5, h6, h7, h8, h9, h10⟩ := hr.ho _ _ _ hg hs
      have hi : i < vs.length := by rw [h5]; exact (List.findIdx?_eq_some_iff_getElem.1 hf).1
      refine ⟨.tuple [vs[i], .bool true].toArray, .tup rfl (rv_list rfl fun j hj => ?_), fun w' hw' => ?_⟩
      · match j, hj with
        | 0, _ => exact .orow hg (by rw [h7]; exact List.getElem?_eq_getElem hi)
        | 1, _ => exact .val _
      · have hb1 := (hw'.block _ (Array.getElem?_eq_some_iff.1 h1).1).trans h1
        have hfd := run_echfind (P := P) (kt := kt) n w' es.toList L vs h5 h4
        have e : vs.getD i undef = vs[i] := by simp [List.getD_eq_getElem?_getD, hi]
        simp only [hf, e] at hfd
        simp only [execOp, hu, h3, hr.evv hk, Instr.lookup, Sem.run_bind, run_underlying hT.und, Result.andThen_ok, MapKept.run_getObj_map hb1, Sem.run_pure, run_echcheck (P := P) (kt := kt), hfd, if_true]
/-- A row that is not there. -/
theorem q_echmiss {T kt ve : TypeId} {bb : Nat} [hT : TMap P T kt ve] [TKind P kt .i64] [hz : TElem P ve (.slice none 0 0) bb] {m k : Operand} {h : Nat} {pb : Option Nat} {e2 : TypeId} {L : Rws} {n : Int} (hm : AV.ev env m = .own h) (hs : os[h]? = some (.ob (echOb pb e2 L))) (hk : AV.ev env k = .i n) (hf : fndR L n = none) :
    QOp P false ⟨d, .lookup T m k true, ty, pos, af, g⟩ env os (.tup [.val (.slice none 0 0), .b false]) :=
  .of_runb fun base w gs tm hr => by
    have hh := hr.ev m
    rw [hm] at hh
    generalize hu : Act.eval ⟨tm, []⟩ m = u at hh
    cases hh with
    | @own _ gh hg =>
      obtain ⟨es, clock, vs, bs, h1, h2, h3, h3', h4, h5, h6, h7, h8, h9, h10⟩ := hr.ho _ _ _ hg hs
      obtain ⟨ii, hi, _, hzz, _⟩ := hz.info
      refine ⟨.tuple [.slice none 0 0, .bool false].toArray, .tup rfl (rv_list rfl fun j hj => ?_), fun w' hw' => ?_⟩
      · match j, hj with
        | 0, _ => exact .val _
        | 1, _ => exact .val _
      · have hb1 := (hw'.block _ (Array.getElem?_eq_some_iff.1 h1).1).trans h1
        have hfd := run_echfind (P := P) (kt := kt) n w' es.toList L vs h5 h4
        simp only [hf] at hfd
        simp [execOp, hu, h3, hr.evv hk, Instr.lookup, Sem.run_bind, run_underlying hT.und, Result.andThen_ok, MapKept.run_getObj_map hb1, Sem.run_pure, run_echcheck (P := P) (kt := kt), hfd, zeroValue, typeInfo, hi, hzz]
theorem q_echidx {t e : TypeId} [ht : TSlice P t e] [he : TCell P e] {x y : Operand} {h j : Nat} {pb : Option Nat} {e2 : TypeId} {L : Rws} {i : Int} (hx : AV.ev env x = .orow h j) (hs : os[h]? = some (.ob (echOb pb e2 L))) (hy : AV.ev env y = .i i)
    (h0 : 0 ≤ i) (h1 : i < (rwAt L j).length) : QOp P wl ⟨d, .indexAddr t x y, ty, pos, af, g⟩ env os (.orptr h j i.toNat) :=
  .of_run fun _ w gs tm hr => by
    have hh := hr.ev x
    rw [hx] at hh
    generalize hv : Act.eval ⟨tm, []⟩ x = v at hh
    cases hh with
    | orow hg hrow =>
      have hrow' := hrow
      obtain ⟨es, clock, vs, bs, p1, p2, p3, p3', p4, p5, p6, p7, p8, p9, p10⟩ := hr.ho _ _ _ hg hs
      rw [p7] at hrow'
      obtain ⟨r1, _⟩ := p8 _ _ hrow'
      obtain ⟨b, cap, e1, _⟩ := own_slice r1 (i := i.toNat) (by rw [List.length_map]; omega)
      rw [e1] at hrow
      refine ⟨_, .orptr hg hrow, fun w' _ => ?_⟩
      obtain ⟨ie, hi, hs1⟩ := he.info
      have hrun := run_idx ht.und hi hs1 ⟨b, 0, none⟩ _ cap i h0 h1 w'
      simp only [execOp, hv, e1, hr.evv hy, Sem.run_bind, hrun, add_none, Nat.zero_add, Result.andThen_ok, Sem.run_pure]
theorem q_echld {t : TypeId} [ht : TCell P t] {x : Operand} {h i j : Nat} {pb : Option Nat} {e2 : TypeId} {L : Rws} (hx : AV.ev env x = .orptr h i j) (hs : os[h]? = some (.ob (echOb pb e2 L))) (hj : j < (rwAt L i).length) :
    QOp P false ⟨d, .load t x, ty, pos, af, g⟩ env os (.i (geti (rwAt L i) j)) :=
  .of_runb fun _ w gs tm hr => by
    have hh := hr.ev x
    rw [hx] at hh
    generalize hv : Act.eval ⟨tm, []⟩ x = v at hh
    cases hh with
    | @orptr _ _ _ blk n c gh hg hrow =>
      obtain ⟨es, clock, vs, bs, p1, p2, p3, p3', p4, p5, p6, p7, p8, p9, p10⟩ := hr.ho _ _ _ hg hs
      rw [p7] at hrow
      obtain ⟨r1, _⟩ := p8 _ _ hrow
      obtain ⟨b, cap, e1, e2', e3, _⟩ := own_slice r1 (i := j) (by simpa using hj)
      simp only [Value.slice.injEq, Option.some.injEq, Addr.mk.injEq, and_true] at e1
      obtain ⟨rfl, _, _⟩ := e1
      refine ⟨_, .val _, fun w' hw' => ?_⟩
      have hcell := below_cell hw' (u := .int .i64 (geti (rwAt L i) j)) (by rw [e3]; generalize rwAt L i = row at hj ⊢; simp [geti, hj])
      simp only [execOp, hv, Sem.run_bind, run_load_cell hcell, Result.andThen_ok, Sem.run_pure]

theorem zip_snoc {α β γ : Type} (f : α → β → γ) : ∀ (l : List α) (m : List β) (a : α) (b : β), m.length = l.length → List.zipWith f (l ++ [a]) (m ++ [b]) = List.zipWith f l m ++ [f a b]
  | [], [], _, _, _ => rfl
  | x :: l, y :: m, a, b, h => by simp [zip_snoc f l m a b (by simpa using h)]
  | [], _ :: _, _, _, h => by simp at h
  | _ :: _, [], _, _, h => by simp at h
set_option maxHeartbeats 1000000 in
/-- A row is laid under a number that is not there. -/
theorem l_echset {T kt ve : TypeId} [hT : TMap P T kt ve] [TKind P kt .i64] {m k v : Operand} {h r : Nat} {pb : Option Nat} {e2 e3 : TypeId} {L : Rws} {n : Int} {xs : List Int} (hm : AV.ev env m = .own h) (hs : os[h]? = some (.ob (echOb pb e2 L))) (hk : AV.ev env k = .i n) (hv : AV.ev env v = .own r)
    (hr0 : os[r]? = some (.sli e3 xs)) (he : e3 = e2) (hne : h ≠ r) (hf : fndR L n = none) :
    LOp P ⟨d, .mapUpdate T m k v, ty, pos, af, g⟩ env os .any (env.mp (AV.rin r h L.length)) (((os.map (AO.via (AV.rin r h L.length) h)).set h (.ob (echOb pb e2 (L ++ [(n, xs)])))).set r .dead) := by
  subst he
  intro base w gs tm hr
  have hh := hr.ev m
  rw [hm] at hh
  have hvv := hr.ev v
  rw [hv] at hvv
  generalize hu : Act.eval ⟨tm, []⟩ m = u at hh
  generalize hu2 : Act.eval ⟨tm, []⟩ v = u2 at hvv
  cases hh with
  | @own _ gh hg =>
  cases hvv with
  | @own _ gk hgk =>
    obtain ⟨es, clock, vs, bs, p1, p2, p3, p3', p4, p5, p6, p7, p8, p9, p10⟩ := hr.ho _ _ _ hg hs
    obtain ⟨b1, b2, b3⟩ := hr.ho _ _ _ hgk hr0
    have hfd := run_echfind (P := P) (kt := kt) n w es.toList L vs p5 p4
    simp only [hf] at hfd
    let w' := setBlock w gh.b (.map (es.push ⟨.int .i64 n, gk.v, clock⟩) (clock + 1))
    have hlt : gh.b < w.heap.size := (Array.getElem?_eq_some_iff.1 p1).1
    let g' : Gh := ⟨gh.v, gh.b, [gh.b] ++ (bs ++ [gk.bl]).flatten, vs ++ [gk.v]⟩
    have hhg : h < gs.length := (List.getElem?_eq_some_iff.1 hg).1
    have hdis : ∀ b, b ∈ gk.bl → b ∉ gh.bl := fun b hb => hr.hd r h gk gh _ _ (fun e => hne e.symm) hgk hg hr0 hs (by simp) (by simp) b hb
    have hblk : ∀ b, b ∈ gk.bl → b < w.heap.size := fun b hb => (hr.hn _ _ _ hgk hr0 (by simp) b hb).2
    have hbl0 : ∀ b, b ∈ gh.bl → b < w.heap.size := fun b hb => (hr.hn _ _ _ hg hs (by simp) b hb).2
    have hsz : w'.heap.size = w.heap.size := by simp [w', setBlock]
    have hmem : gh.b ∈ gh.bl := by rw [p9]; simp
    have sv : RowIn h r L.length gs (gs.set h g') := by
      refine ⟨fun j z hj hz => ?_, fun z hz => ⟨g', by simp [hhg], fun i u hiu => ?_⟩, fun z hz => ⟨g', by simp [hhg], ?_⟩⟩
      · rw [List.getElem?_set, if_neg (fun e => hj e.symm)]; exact hz
      · rw [hg] at hz; cases hz
        rw [p7] at hiu
        show (vs ++ [gk.v])[i]? = some u
        rw [List.getElem?_append_left (List.getElem?_eq_some_iff.1 hiu).1]; exact hiu
      · rw [hgk] at hz; cases hz
        show (vs ++ [gk.v])[L.length]? = some gk.v
        rw [← p5]; simp
    have keep : ∀ c, c ≠ gh.b → w'.heap[c]? = w.heap[c]? := fun c hc => setBlock_other _ _ _ _ hc
    have nd1 : ([gh.b] ++ bs.flatten).Nodup := by rw [← p9]; exact p10
    have hgb : gh.b ∉ bs.flatten := by
      rw [List.singleton_append, List.nodup_cons] at nd1; exact nd1.1
    refine ⟨undef, w', gs.set h g', .inr ⟨?_, rfl⟩, hr.absorb hg hs trivial hgk hr0 trivial hne g' _ (AV.rin r h L.length) rfl (fun b hb hn => keep b fun e => hn (e ▸ hmem)) (by rw [hsz]; exact Nat.le_refl _) ?_ (fun kp hv => hv.rin kp sv) ?_, .any _, setBlock_below (.inl rfl) p2⟩
    · unfold execOp
      simp only [hu, p3, hr.evv hk, hu2, Instr.mapUpdate, Sem.run_bind, run_underlying hT.und, Result.andThen_ok, MapKept.run_getObj_map p1, run_echcheck (P := P) (kt := kt), hfd, run_setmap p1, Sem.run_pure]
      rfl
    · intro b hb
      have hb' : b ∈ gh.bl ∨ b ∈ gk.bl := by
        rw [p9]
        simp only [g', List.flatten_append, List.mem_append] at hb ⊢
        rcases hb with hb | hb | hb
        · exact .inl (.inl hb)
        · exact .inl (.inr hb)
        · right
          simpa using hb
      refine ⟨?_, by rw [hsz]; rcases hb' with h1 | h1; exact hbl0 b h1; exact hblk b h1⟩
      rcases hb' with h1 | h1
      · exact .inl h1
      · exact .inr (.inl h1)
    · intro kp
      refine ⟨es.push ⟨.int .i64 n, gk.v, clock⟩, clock + 1, vs ++ [gk.v], bs ++ [gk.bl], setBlock_same _ _ _ hlt, p2, p3, p3', ?_, by simp [p5], by simp [p6], rfl, fun i u hiu => ?_, rfl, ?_⟩
      · rw [zip_snoc _ _ _ _ _ p5]
        simp [p4]
      · rw [List.getElem?_append] at hiu
        split at hiu
        · rename_i hi
          obtain ⟨r1, r2, r3⟩ := p8 i u hiu
          have e1 : rwAt (L ++ [(n, xs)]) i = rwAt L i := by
            unfold rwAt
            rw [List.getD_eq_getElem?_getD, List.getElem?_append_left (by omega), ← List.getD_eq_getElem?_getD]
          have e2 : (bs ++ [gk.bl]).getD i [] = bs.getD i [] := by
            rw [List.getD_eq_getElem?_getD, List.getElem?_append_left (by omega), ← List.getD_eq_getElem?_getD]
          rw [e1, e2]
          refine ⟨ownsRow_of_block r1 fun c hc => keep c fun e => ?_, r2, r3⟩
          subst e
          refine hgb (List.mem_flatten.2 ⟨bs.getD i [], ?_, by rw [← r3, hc]; simp⟩)
          rw [List.getD_eq_getElem?_getD, List.getElem?_eq_getElem (by omega)]
          simp
        · rename_i hi
          have hi0 : i - vs.length = 0 := by
            have := (List.getElem?_eq_some_iff.1 hiu).1
            simp at this; omega
          rw [hi0] at hiu
          simp at hiu
          subst hiu
          have ei : i = L.length := by omega
          have e1 : rwAt (L ++ [(n, xs)]) i = xs := by unfold rwAt; rw [ei]; simp [List.getD_eq_getElem?_getD]
          have e2 : (bs ++ [gk.bl]).getD i [] = gk.bl := by rw [ei, ← p6]; simp [List.getD_eq_getElem?_getD]
          rw [e1, e2]
          have hl1 : xs.length = (xs.map (Value.int .i64)).length := by simp
          refine ⟨ownsRow_of_block b1 fun c hc => keep c fun e => ?_, b2, ?_⟩
          · subst e
            exact hdis _ (b3.mem hc) hmem
          · exact b3.list
      · show ([gh.b] ++ (bs ++ [gk.bl]).flatten).Nodup
        rw [List.flatten_append, ← List.append_assoc]
        refine List.nodup_append.2 ⟨nd1, by simpa using b3.nodup, fun a ha b hb e => ?_⟩
        subst e
        rw [← p9] at ha
        exact hdis a (by simpa using hb) ha
end
end Go.Proofs.Ytifkgmbghcmdeaa
/-
  Functions that lay rows into a map from numbers to rows that is handed to them. No condition.
-/
namespace Go.Proofs.Ytifkgmbghcmdeaa
open Go Go.RowKit
open Go.ChangeMaps (setBlock)

/-- The function turns the rows L of the map that it is handed into L', and hands back v. -/
def AFnE (P : Program) (f : FuncId) (args : List AV) (e2 : TypeId) (L L' : Rws) (v : Value) : Prop :=
  HasBody P f ∧ ∀ base w g vs, base ≤ w.heap.size → Objs base w [g] [.ob (echOb none e2 L)] → vs.size = args.length → (∀ i : Nat, RV w (okOf [g] [.ob (echOb none e2 L)]) [g] (vs.getD i undef) (args.getD i .any)) →
    Calls P f vs w fun e w' => ∃ g', e = .returned v ∧ g'.v = g.v ∧ g'.b = g.b ∧ RO base w' (fun _ => True) [g'] g' (.ob (echOb none e2 L')) ∧ (∀ b, b ∈ g'.bl → (b ∈ g.bl ∨ w.heap.size ≤ b) ∧ b < w'.heap.size) ∧ Below base w w' ∧ ∀ b, b < w.heap.size → b ∉ g.bl → w'.heap[b]? = w.heap[b]?

theorem AFnE.of {P : Program} {f : FuncId} {fn : Func} {c : Code} {args args' : List AV} {e2 : TypeId} {L L' : Rws} {v : Value} {n : Nat} (hf : P.funcs[f]? = some fn) (hb : fn.body = some c) (hnm : (fn.name == "runtime.NumGoroutine") = false) (hn : fn.ntmps - args.length = n) (ha : args' = args.map (AV.sh 1))
    (h : ∀ K pb, AWp P c (fun env (os : List AO) => ∃ k : Nat, ResIs P fn env os (.val v) ∧ os[k]? = some (.ob (echOb (some pb) e2 L')) ∧ os[0]? = some (.keep 1 K)) (fun _ _ _ => False) (fun env (os : List AO) => ∃ k : Nat, ResIs P fn env os (.val v) ∧ os[k]? = some (.ob (echOb (some pb) e2 L')) ∧ os[0]? = some (.keep 1 K)) (Env.start args' n) [.keep 1 K, .ob (echOb (some pb) e2 L)]) :
    AFnE P f args e2 L L' v := by
  refine ⟨⟨fn, c, hf, hnm, hb⟩, fun base w g vs hbase hO hsz hvs => calls_of_wp hf hb ?_⟩
  rw [show fn.ntmps - vs.size = n by rw [hsz]; exact hn]
  have h := fun K => h K g.b
  let bl : List Nat := (List.range w.heap.size).filter fun b => decide (base ≤ b) && !g.bl.contains b
  let gk : Gh := ⟨undef, 0, bl, []⟩
  let K : Kp := ⟨fun b => w.heap[b]?, [gk]⟩
  let oo : AO := .ob (echOb (some g.b) e2 L)
  have hbl : ∀ b, b ∈ bl ↔ b < w.heap.size ∧ base ≤ b ∧ b ∉ g.bl := by
    intro b
    simp only [bl, List.mem_filter, List.mem_range, Bool.and_eq_true, decide_eq_true_eq, Bool.not_eq_true', List.contains_eq_mem, decide_eq_false_iff_not]
  have gg : ∀ {i : Nat} {x : Gh}, [gk, g][i]? = some x → (i = 0 ∧ x = gk) ∨ (i = 1 ∧ x = g) := by
    intro i x hx
    match i with
    | 0 => simp at hx; exact .inl ⟨rfl, hx.symm⟩
    | 1 => simp at hx; exact .inr ⟨rfl, hx.symm⟩
    | i + 2 => simp at hx
  have go : ∀ {i : Nat} {x : AO}, [AO.keep 1 K, oo][i]? = some x → (i = 0 ∧ x = .keep 1 K) ∨ (i = 1 ∧ x = oo) := by
    intro i x hx
    match i with
    | 0 => simp at hx; exact .inl ⟨rfl, hx.symm⟩
    | 1 => simp at hx; exact .inr ⟨rfl, hx.symm⟩
    | i + 2 => simp at hx
  have hkeep : Keeps (okOf [g] [.ob (echOb none e2 L)]) (okOf [gk, g] [.keep 1 K, oo]) w w := by
    intro b hbk _
    refine ⟨fun i x y hx hy hny hm => ?_, rfl⟩
    rcases gg hx with ⟨rfl, rfl⟩ | ⟨rfl, rfl⟩
    · rcases go hy with ⟨_, rfl⟩ | ⟨h0, _⟩
      · exact hny.elim
      · omega
    · rcases go hy with ⟨h0, _⟩ | ⟨_, rfl⟩
      · omega
      · exact hbk 0 _ _ rfl rfl trivial hm
  have hro0 := hO.ho 0 g _ rfl rfl
  have hn0 := hO.hn 0 g rfl
  have hv0 : g.v = .map (some g.b) := (ech_unpin (ech_pin hro0)).2.2
  have hrel : Rel base w [gk, g] (Env.start args' n) [.keep 1 K, oo] (vs ++ Array.replicate n undef) := by
    refine ⟨hbase, rfl, by simp [Env.start, hsz, ha], fun i => start_rv args' n vs (fun i => ?_) i, ?_, ?_, ?_⟩
    · rw [ha, getD_map_any _ rfl]
      have := (hvs i).sh (gs0 := [gk]) hkeep
      exact this
    · intro i x y hx hy
      rcases gg hx with ⟨rfl, rfl⟩ | ⟨rfl, rfl⟩
      · rcases go hy with ⟨_, rfl⟩ | ⟨h0, _⟩
        · exact ⟨fun b _ => rfl, rfl, fun i x h => by
            match i with
            | 0 => exact h
            | i + 1 => simp [K] at h⟩
        · omega
      · rcases go hy with ⟨h0, _⟩ | ⟨_, rfl⟩
        · omega
        · exact ech_pin hro0
    · intro i j g1 g2 o1 o2 hij hg1 hg2 ho1 ho2 _ _ b hb1 hb2
      rcases gg hg1 with ⟨rfl, rfl⟩ | ⟨rfl, rfl⟩
      · rcases gg hg2 with ⟨rfl, rfl⟩ | ⟨rfl, rfl⟩
        · exact hij rfl
        · exact ((hbl b).1 hb1).2.2 hb2
      · rcases gg hg2 with ⟨rfl, rfl⟩ | ⟨rfl, rfl⟩
        · exact ((hbl b).1 hb2).2.2 hb1
        · exact hij rfl
    · intro i x y hx hy _ b hb
      rcases gg hx with ⟨rfl, rfl⟩ | ⟨rfl, rfl⟩
      · exact ⟨((hbl b).1 hb).2.1, ((hbl b).1 hb).1⟩
      · exact hn0 b hb
  have fin : ∀ {env : Env} {os1 : List AO} {gs2 : List Gh} {a : Act} {w' : World}, Rel base w' gs2 env os1 a.tmps → Below base w w' → (∃ k : Nat, ResIs P fn env os1 (.val v) ∧ os1[k]? = some (AO.ob (echOb (some g.b) e2 L')) ∧ os1[0]? = some (.keep 1 K)) →
      ∃ u, (results fn a.tmps).run P w' = .ok u w' ∧ ∃ g', Exit.ret = Exit.ret ∧ u = v ∧ g'.v = g.v ∧ g'.b = g.b ∧ RO base w' (fun _ => True) [g'] g' (.ob (echOb none e2 L')) ∧ (∀ b, b ∈ g'.bl → (b ∈ g.bl ∨ w.heap.size ≤ b) ∧ b < w'.heap.size) ∧ Below base w w' ∧ ∀ b, b < w.heap.size → b ∉ g.bl → w'.heap[b]? = w.heap[b]? := by
    intro env os1 gs2 a w' hr hbel ⟨k, hres, hok, hkp⟩
    obtain ⟨u, hu, hv⟩ := hres _ _ _ _ hr
    cases hv
    have hltk : k < gs2.length := by rw [hr.hl]; exact (List.getElem?_eq_some_iff.1 hok).1
    obtain ⟨g', hg'⟩ : ∃ g', gs2[k]? = some g' := ⟨_, List.getElem?_eq_getElem hltk⟩
    have hlt0 : 0 < gs2.length := by rw [hr.hl]; exact (List.getElem?_eq_some_iff.1 hkp).1
    obtain ⟨g0, hg0⟩ : ∃ g0, gs2[0]? = some g0 := ⟨_, List.getElem?_eq_getElem hlt0⟩
    obtain ⟨r1, r2, r3⟩ := hr.ho _ _ _ hg0 hkp
    have egk : g0 = gk := by
      have := r3 0 gk rfl
      rw [hg0] at this
      exact Option.some.inj this
    subst egk
    have hk0 : k ≠ 0 := fun e => by subst e; rw [hkp] at hok; cases hok
    have hro := ech_unpin (hr.ho _ _ _ hg' hok)
    refine ⟨v, hu, g', rfl, rfl, by rw [hro.2.2, hv0], hro.2.1, hro.1, fun b hb => ?_, hbel, fun b hb hnot => ?_⟩
    · have hbn := hr.hn _ _ _ hg' hok (by simp) b hb
      refine ⟨?_, hbn.2⟩
      by_cases hbw : b < w.heap.size
      · left
        apply Classical.byContradiction
        intro hnb
        exact hr.hd k 0 g' _ _ _ hk0 hg' hg0 hok hkp (by simp) (by simp) b hb ((hbl b).2 ⟨hbw, hbn.1, hnb⟩)
      · right; omega
    · rcases Nat.lt_or_ge b base with h6 | h6
      · exact hbel.block b h6
      · exact r1 b ((hbl b).2 ⟨hb, h6, hnot⟩)
  refine wp_mono (h K base w w _ _ hrel (Below.refl _ _)) ?_
  intro e a w' hq
  cases e with
  | normal =>
    obtain ⟨env, os1, gs1, hr, hd, hbel, hx⟩ := hq
    obtain ⟨u, hu, g', _, rfl, r⟩ := fin hr hbel hx
    exact ⟨hd, _, hu, g', rfl, r⟩
  | exit j => obtain ⟨_, _, _, _, _, _, hx⟩ := hq; exact hx.elim
  | ret =>
    obtain ⟨env, os1, gs1, hr, hd, hbel, hx⟩ := hq
    obtain ⟨u, hu, g', _, rfl, r⟩ := fin hr hbel hx
    exact ⟨hd, _, hu, g', rfl, r⟩
  | goto l => exact (hq : False).elim
  | panic ch => exact (hq : False).elim
  | outgrown => exact (hq : False).elim
theorem AFnE.start {P : Program} {f : FuncId} {fn : Func} {nt : Nat} {args : List AV} {e2 : TypeId} {L L' : Rws} {v : Value} (hf : P.funcs[f]? = some fn) (hnt : fn.ntmps = nt) {c : Code} (hb : fn.body = some c) (hnm : (fn.name == "runtime.NumGoroutine") = false)
    (h : ∀ K pb, AWp P c (fun env (os : List AO) => ∃ k : Nat, ResIs P fn env os (.val v) ∧ os[k]? = some (.ob (echOb (some pb) e2 L')) ∧ os[0]? = some (.keep 1 K)) (fun _ _ _ => False) (fun env (os : List AO) => ∃ k : Nat, ResIs P fn env os (.val v) ∧ os[k]? = some (.ob (echOb (some pb) e2 L')) ∧ os[0]? = some (.keep 1 K)) (Env.start (args.map (AV.sh 1)) (nt - args.length)) [.keep 1 K, .ob (echOb (some pb) e2 L)]) :
    AFnE P f args e2 L L' v := AFnE.of hf hb hnm (by rw [hnt]) rfl h

section
variable {P : Program} {env : Env} {os : List AO} {d : Option Tmp} {ty : TypeId} {pos : String} {af : Array Edge} {g : Option (Nat × Bool)}
theorem c_calle {f : FuncId} {args : List AV} {e2 : TypeId} {L L' : Rws} {v : Value} (hc : AFnE P f args e2 L L' v) {xs : List Operand} {ats : Array TypeId} {h : Nat} (hs : os[h]? = some (.ob (echOb none e2 L))) (hi : ImmUs os [h] (xs.map (AV.ev env)) args) :
    COp P ⟨d, .call { callee := .value (.func f), args := xs.toArray, argTypes := ats }, ty, pos, af, g⟩ env os (fun r e o => r = .val v ∧ e = env.mp (AV.noRow h) ∧ o = (((os ++ [AO.sli e2 []]).map (AO.via (AV.noRow h) h)).set h (.ob (echOb none e2 L'))).set os.length .dead) := by
  intro base w gs tm hr
  have hh : Handed os [h] [.ob (echOb none e2 L)] := handed1 hs True.intro
  have hg := hi.get
  have hlt := hh.lt h (by simp)
  have hgl : h < gs.length := by rw [hr.hl]; exact hlt
  obtain ⟨gh, hgh⟩ : ∃ x, gs[h]? = some x := ⟨_, List.getElem?_eq_getElem hgl⟩
  have esel : selG gs [h] = [gh] := by simp [selG, hgh]
  have hobj := hr.objs hh
  rw [esel] at hobj
  refine ⟨f, _, run_call hc.1 xs ats _ rfl w, (hc.2 base w gh _ hr.hb hobj (by simpa using hg.1) fun i => ?_).mono ?_⟩
  · have h1 := hg.2 i
    have e1 : (xs.map (AV.ev env)).getD i .any = match xs[i]? with | some x => AV.ev env x | none => .any := by
      simp only [List.getD_eq_getElem?_getD, List.getElem?_map]; cases xs[i]? <;> rfl
    have e2 : (xs.map (Act.eval ⟨tm, []⟩)).toArray.getD i undef = match xs[i]? with | some x => Act.eval ⟨tm, []⟩ x | none => undef := by
      simp only [Array.getD_eq_getD_getElem?, List.getElem?_toArray, List.getElem?_map]; cases xs[i]? <;> rfl
    rw [e1] at h1
    rw [e2, ← esel]
    cases hx : xs[i]? with
    | some x => rw [hx] at h1; exact h1.rv hr hh (hr.ev x)
    | none => rw [hx] at h1; exact h1.rv hr hh (.any _)
  · rintro e w' ⟨g', rfl, hgv, hgb, hro, hbl, hbel, hfr⟩
    let gd : Gh := ⟨.slice none 0 0, 0, [], []⟩
    have hr1 : Rel base w (gs ++ [gd]) env (os ++ [.sli e2 []]) tm := hr.new (Below.refl _ _) (.sli e2 []) gd (fun _ b hb => by simp [gd] at hb) ⟨World.ownsRow_nil w base e2 1, fun x hx => by simp at hx, .inl ⟨rfl, rfl⟩⟩
    have hg1 : (gs ++ [gd])[h]? = some gh := by rw [List.getElem?_append_left hgl]; exact hgh
    have hs1 : (os ++ [AO.sli e2 []])[h]? = some (.ob (echOb none e2 L)) := by rw [List.getElem?_append_left hlt]; exact hs
    have hgd : (gs ++ [gd])[os.length]? = some gd := by rw [← hr.hl]; simp
    have hod : (os ++ [AO.sli e2 []])[os.length]? = some (.sli e2 []) := by simp
    have sv : SameV h (gs ++ [gd]) ((gs ++ [gd]).set h g') := by
      refine ⟨fun j z hj hz => ?_, fun z hz => ⟨g', by rw [List.getElem?_set_self (by rw [List.length_append]; omega)], ?_⟩⟩
      · rw [List.getElem?_set, if_neg (fun e => hj e.symm)]; exact hz
      · rw [hg1] at hz; cases hz; exact ⟨hgv, hgb⟩
    refine ⟨v, .val v, _, _, (gs ++ [gd]).set h g', rfl, ⟨rfl, rfl, rfl⟩, hr1.absorb hg1 hs1 trivial hgd hod trivial (by omega) g' _ (AV.noRow h) rfl hfr hbel.size ?_ (fun kp hv => hv.noRow kp sv) (fun _ => AO.plain.ro trivial hro), .val _, hbel⟩
    intro b hb
    have := hbl b hb
    refine ⟨?_, this.2⟩
    rcases this.1 with h1 | h1
    · exact .inl h1
    · exact .inr (.inr h1)
end

section
variable {P : Program} {env : Env} {os : List AO} {d : Tmp} {ty : TypeId} {pos : String} {af : Array Edge} {g : Option (Nat × Bool)} {l rest : List Oper} {K : APost} {q : Md}
theorem w_calle {f : FuncId} {args : List AV} {e2 : TypeId} {L L' : Rws} {v : Value} {xs : List Operand} {ats : Array TypeId} (h : Nat) {m : Nat} (hc : AFnE P f args e2 L L' v) (hs : os[h]? = some (.ob (echOb none e2 L))) (hm : os.length = m) (hi : ImmUs os [h] (xs.map (AV.ev env)) args)
    (h' : AOps P .seq l rest K ((env.mp (AV.noRow h)).up d (.val v)) ((((os ++ [AO.sli e2 []]).map (AO.via (AV.noRow h) h)).set h (.ob (echOb none e2 L'))).set m .dead)) :
    AOps P .seq l (⟨some d, .call { callee := .value (.func f), args := xs.toArray, argTypes := ats }, ty, pos, af, none⟩ :: rest) K env os := by
  subst hm
  exact AOps.ca (c_calle hc hs hi) fun r e o ⟨h1, h2, h3⟩ => by subst h1; subst h2; subst h3; exact h'
theorem w_echmake {T kt ve e2 : TypeId} [TMap P T kt ve] [TSlice P ve e2] {m : Nat} (hm : os.length = m) (h' : AOps P .seq l rest K (env.up d (.own m)) (os ++ [.ob (echOb none e2 [])])) : AOps P .seq l (⟨some d, .makeMap T none, ty, pos, af, none⟩ :: rest) K env os := by
  subst hm; exact AOps.lo l_echmake h'
theorem w_echhit {T kt ve : TypeId} [TMap P T kt ve] [TKind P kt .i64] {m k : Operand} {h i : Nat} {pb : Option Nat} {e2 : TypeId} {L : Rws} {n : Int} (hf : fndR L n = some i) (hw : wantedA l env ⟨some d, .lookup T m k true, ty, pos, af, g⟩ = some true) (hq : q.wl = false)
    (hm : evo env m = some (.own h)) (hs : os[h]? = some (.ob (echOb pb e2 L))) (hk : evo env k = some (.i n)) (h' : AOps P q l rest K (env.up d (.tup [.orow h i, .b true])) os) : AOps P q l (⟨some d, .lookup T m k true, ty, pos, af, g⟩ :: rest) K env os :=
  AOps.qo hw (by rw [hq]; exact q_echhit (ev_of hm) hs (ev_of hk) hf) h'
theorem w_echmiss {T kt ve : TypeId} {bb : Nat} [TMap P T kt ve] [TKind P kt .i64] [TElem P ve (.slice none 0 0) bb] {m k : Operand} {h : Nat} {pb : Option Nat} {e2 : TypeId} {L : Rws} {n : Int} (hf : fndR L n = none) (hw : wantedA l env ⟨some d, .lookup T m k true, ty, pos, af, g⟩ = some true) (hq : q.wl = false)
    (hm : evo env m = some (.own h)) (hs : os[h]? = some (.ob (echOb pb e2 L))) (hk : evo env k = some (.i n)) (h' : AOps P q l rest K (env.up d (.tup [.val (.slice none 0 0), .b false])) os) : AOps P q l (⟨some d, .lookup T m k true, ty, pos, af, g⟩ :: rest) K env os :=
  AOps.qo hw (by rw [hq]; exact q_echmiss (ev_of hm) hs (ev_of hk) hf) h'
theorem w_echidx {t e : TypeId} [TSlice P t e] [TCell P e] {x y : Operand} {h j : Nat} {pb : Option Nat} {e2 : TypeId} {L : Rws} {i : Int} (hw : wantedA l env ⟨some d, .indexAddr t x y, ty, pos, af, g⟩ = some true) (hx : evo env x = some (.orow h j)) (hs : os[h]? = some (.ob (echOb pb e2 L))) (hy : evo env y = some (.i i))
    (h0 : 0 ≤ i) (h1 : i < (rwAt L j).length) (h' : AOps P q l rest K (env.up d (.orptr h j i.toNat)) os) : AOps P q l (⟨some d, .indexAddr t x y, ty, pos, af, g⟩ :: rest) K env os :=
  AOps.qo hw (q_echidx (ev_of hx) hs (ev_of hy) h0 h1) h'
theorem w_echld {t : TypeId} [TCell P t] {x : Operand} {h i j : Nat} {pb : Option Nat} {e2 : TypeId} {L : Rws} (hw : wantedA l env ⟨some d, .load t x, ty, pos, af, g⟩ = some true) (hq : q.wl = false) (hx : evo env x = some (.orptr h i j)) (hs : os[h]? = some (.ob (echOb pb e2 L))) (hj : j < (rwAt L i).length)
    (h' : AOps P q l rest K (env.up d (.i (geti (rwAt L i) j))) os) : AOps P q l (⟨some d, .load t x, ty, pos, af, g⟩ :: rest) K env os :=
  AOps.qo hw (by rw [hq]; exact q_echld (ev_of hx) hs hj) h'
theorem w_echset {T kt ve : TypeId} [TMap P T kt ve] [TKind P kt .i64] {m k v : Operand} {h r : Nat} {pb : Option Nat} {e2 e3 : TypeId} {L : Rws} {n : Int} {xs : List Int} (hf : fndR L n = none) (hm : evo env m = some (.own h)) (hs : os[h]? = some (.ob (echOb pb e2 L))) (hk : evo env k = some (.i n)) (hv : evo env v = some (.own r))
    (hr0 : os[r]? = some (.sli e3 xs)) (he : e3 = e2) (hne : (h == r) = false)
    (h' : AOps P .seq l rest K (env.mp (AV.rin r h L.length)) (((os.map (AO.via (AV.rin r h L.length) h)).set h (.ob (echOb pb e2 (L ++ [(n, xs)])))).set r .dead)) : AOps P .seq l (⟨none, .mapUpdate T m k v, ty, pos, af, none⟩ :: rest) K env os :=
  AOps.so (l_echset (ev_of hm) hs (ev_of hk) (ev_of hv) hr0 he (by simpa using hne) hf) h'
end
end Go.Proofs.Ytifkgmbghcmdeaa
/-
  Rows over the field of 55441 elements: how a row is reduced. No condition.
-/
namespace Go.Proofs.Ytifkgmbghcmdeaa
open Go Go.RowKit

/-- A row whose numbers from lo on, below hi, are others. -/
def updR (row : List Int) (g : Nat → Int) (lo hi : Nat) : List Int := (List.range row.length).map fun k => if lo ≤ k ∧ k < hi then g k else geti row (k : Nat)
theorem updR_len (row : List Int) (g : Nat → Int) (lo hi : Nat) : (updR row g lo hi).length = row.length := by simp [updR]
theorem geti_upd {row : List Int} {g : Nat → Int} {lo hi k : Nat} (hk : k < row.length) : geti (updR row g lo hi) (k : Nat) = if lo ≤ k ∧ k < hi then g k else geti row (k : Nat) := by
  unfold updR
  conv => lhs; unfold geti
  rw [Int.toNat_natCast, List.getD_eq_getElem?_getD, List.getElem?_map, List.getElem?_range hk]
  rfl
theorem geti_out {row : List Int} {k : Nat} (hk : row.length ≤ k) : geti row (k : Nat) = 0 := by
  unfold geti
  rw [Int.toNat_natCast, List.getD_eq_getElem?_getD, List.getElem?_eq_none hk]; rfl
theorem ext_geti {a b : List Int} (hl : a.length = b.length) (h : ∀ k : Nat, k < a.length → geti a (k : Nat) = geti b (k : Nat)) : a = b := by
  refine List.ext_getElem hl fun k h1 h2 => ?_
  have := h k h1
  unfold geti at this
  rw [Int.toNat_natCast, List.getD_eq_getElem?_getD, List.getD_eq_getElem?_getD, List.getElem?_eq_getElem h1, List.getElem?_eq_getElem h2] at this
  exact this
theorem updR_none (row : List Int) (g : Nat → Int) {lo hi : Nat} (h : hi ≤ lo) : updR row g lo hi = row :=
  ext_geti (updR_len _ _ _ _) fun k hk => by
    rw [updR_len] at hk
    rw [geti_upd hk, if_neg (by omega)]
theorem updR_set {row : List Int} {g : Nat → Int} {lo k : Nat} (hlo : lo ≤ k) (hk : k < row.length) {v : Int} (hv : v = g k) : (updR row g lo k).set k v = updR row g lo (k + 1) :=
  ext_geti (by simp [updR_len]) fun j hj => by
    have hj' : j < row.length := by simpa [updR_len] using hj
    rw [geti_set, geti_upd hj', geti_upd hj', Int.toNat_natCast, updR_len]
    by_cases e : k = j
    · subst e; rw [if_pos ⟨rfl, hk⟩, if_pos ⟨hlo, by omega⟩, hv]
    · rw [if_neg (fun h => e h.1)]
      by_cases h2 : lo ≤ j ∧ j < k
      · rw [if_pos h2, if_pos (by omega)]
      · rw [if_neg h2, if_neg (by omega)]
theorem inF_upd {row : List Int} {g : Nat → Int} (h : inF row) (hg : ∀ k, 0 ≤ g k ∧ g k ≤ 55440) (lo hi : Nat) : inF (updR row g lo hi) := fun i => by
  have hi : geti (updR row g lo hi) i = geti (updR row g lo hi) (i.toNat : Nat) := by unfold geti; rw [Int.toNat_natCast]
  rw [hi]
  by_cases hk : i.toNat < row.length
  · rw [geti_upd hk]; split
    · exact hg _
    · exact h _
  · rw [geti_out (by rw [updR_len]; omega)]; omega

/-- A multiple of a row. -/
def sclG (row : List Int) (s : Int) (k : Nat) : Int := geti row (k : Nat) * s % 55441
/-- A row and a multiple of another one. -/
def adrG (row : List Int) (f : Int) (old : List Int) (k : Nat) : Int := (geti row (k : Nat) + f * geti old (k : Nat)) % 55441
/-- The row is reduced from the place 'at' on: nothing is left, or a row that begins with 1 at a place that is new. -/
def redR (L : Rws) : Nat → List Int → Nat → Option (Int × List Int)
  | 0, _, _ => none
  | n + 1, row, p => if geti row (p : Nat) = 0 then redR L n row (p + 1) else
    match fndR L (p : Nat) with
    | none => some ((p : Nat), updR row (sclG row (pwF (geti row (p : Nat)) 55439)) p row.length)
    | some k => redR L n (updR row (adrG row (55441 - geti row (p : Nat)) (rwAt L k)) p row.length) (p + 1)
/-- The rows with one more. -/
def addR (L : Rws) (row : List Int) : Rws := match redR L row.length row 0 with
  | none => L
  | some t => L ++ [t]

/-- Rows of one length with numbers of the field; each begins at its number. -/
structure RwOk (m : Nat) (L : Rws) : Prop where
  at_ : ∀ i : Nat, i < L.length → (rwAt L i).length = m ∧ inF (rwAt L i) ∧ 0 ≤ (L.getD i (0, [])).1 ∧ (L.getD i (0, [])).1 < m ∧ geti (rwAt L i) (L.getD i (0, [])).1 = 1 ∧ ∀ k : Nat, (k : Int) < (L.getD i (0, [])).1 → geti (rwAt L i) (k : Nat) = 0
theorem fnd_at {L : Rws} {p : Int} {k : Nat} (h : fndR L p = some k) : k < L.length ∧ (L.getD k (0, [])).1 = p := by
  obtain ⟨hk, h1, _⟩ := List.findIdx?_eq_some_iff_getElem.1 h
  refine ⟨hk, ?_⟩
  simp only [decide_eq_true_eq] at h1
  rw [List.getD_eq_getElem?_getD, List.getElem?_eq_getElem hk]
  exact h1
theorem scl_in (row : List Int) (s : Int) (k : Nat) : 0 ≤ sclG row s k ∧ sclG row s k ≤ 55440 := modP _
theorem adr_in (row : List Int) (f : Int) (old : List Int) (k : Nat) : 0 ≤ adrG row f old k ∧ adrG row f old k ≤ 55440 := modP _
/-- The state of a row that is being reduced. -/
structure RdI (m p : Nat) (row : List Int) : Prop where
  len : row.length = m
  inf : inF row
  zero : ∀ k : Nat, k < p → geti row (k : Nat) = 0
theorem RdI.next {m p : Nat} {row : List Int} (h : RdI m p row) (h0 : geti row (p : Nat) = 0) : RdI m (p + 1) row := ⟨h.len, h.inf, fun k hk => by
  by_cases e : k = p
  · subst e; exact h0
  · exact h.zero k (by omega)⟩
theorem RdI.red {m p : Nat} {row : List Int} {L : Rws} (h : RdI m p row) (hL : RwOk m L) {k : Nat} (hf : fndR L (p : Nat) = some k) (hp : p < m) : RdI m (p + 1) (updR row (adrG row (55441 - geti row (p : Nat)) (rwAt L k)) p row.length) := by
  obtain ⟨hk, e⟩ := fnd_at hf
  obtain ⟨a1, a2, a3, a4, a5, a6⟩ := hL.at_ k hk
  refine ⟨by rw [updR_len]; exact h.len, inF_upd h.inf (adr_in _ _ _) _ _, fun j hj => ?_⟩
  have hl := h.len
  rw [geti_upd (by omega)]
  by_cases e2 : j = p
  · subst e2
    rw [if_pos (by omega)]
    unfold adrG
    rw [e] at a5
    rw [a5]
    have := h.inf (j : Nat)
    omega
  · rw [if_neg (by omega)]
    exact h.zero j (by omega)
theorem redR_ok {m : Nat} {L : Rws} (hL : RwOk m L) : ∀ (n p : Nat) (row : List Int), RdI m p row → p + n = m → ∀ t, redR L n row p = some t → t.2.length = m ∧ inF t.2 ∧ 0 ≤ t.1 ∧ t.1 < m ∧ (∀ k : Nat, (k : Int) < t.1 → geti t.2 (k : Nat) = 0) ∧ fndR L t.1 = none ∧ (∃ q : Int, 1 ≤ q ∧ q ≤ 55440 ∧ geti t.2 t.1 = q * pwF q 55439 % 55441)
  | 0, p, row, h, hp, t, ht => by simp [redR] at ht
  | n + 1, p, row, h, hp, t, ht => by
    rw [redR] at ht
    have hl := h.len
    split at ht
    · exact redR_ok hL n (p + 1) row (h.next (by assumption)) (by omega) t ht
    · rename_i hne
      have hin := h.inf (p : Nat)
      cases hf : fndR L (p : Nat) with
      | none =>
        rw [hf] at ht
        simp only [Option.some.injEq] at ht
        subst ht
        refine ⟨by rw [updR_len]; exact hl, inF_upd h.inf (scl_in _ _) _ _, by simp, by simp only; omega, fun k hk => ?_, hf, geti row (p : Nat), by omega, by omega, ?_⟩
        · simp only at hk
          rw [geti_upd (by omega), if_neg (by omega)]
          exact h.zero k (by omega)
        · simp only
          rw [geti_upd (by omega), if_pos (by omega)]
          rfl
      | some k =>
        rw [hf] at ht
        exact redR_ok hL n (p + 1) _ (h.red hL hf (by omega)) (by omega) t ht
end Go.Proofs.Ytifkgmbghcmdeaa
/-
  Functions that use up own memory that is handed to them, and hand back own memory. No condition.
-/
namespace Go.Proofs.Ytifkgmbghcmdeaa
open Go Go.RowKit

/-- Values that hold no more than two levels of parts, and read nothing. -/
def AV.fl0 : AV → Prop
  | .any => True
  | .val _ => True
  | .own _ => True
  | .optr _ _ => True
  | .osub _ _ _ => True
  | .orow _ _ => True
  | .orptr _ _ _ => True
  | _ => False
def AV.fl1 : AV → Prop
  | .agg l => ∀ a ∈ l, a.fl0
  | a => a.fl0
def AV.fl : AV → Prop
  | .agg l => ∀ a ∈ l, a.fl0
  | .tup l => ∀ a ∈ l, a.fl1
  | a => a.fl0
section
variable {w : World} {ok ok' : Nat → Prop} {gs : List Gh} {g0 : Gh}
theorem RV.unsh0 {v : Value} {a : AV} (hf : a.fl0) (hv : RV w ok (g0 :: gs) v (a.sh0 1)) : RV w ok' gs v a := by
  cases a with
  | any => exact .any v
  | val u => cases hv with | val => exact .val _
  | own k => cases hv with | own h => exact .own (by simpa using h)
  | optr k i => cases hv with | optr h => exact .optr (by simpa using h)
  | osub k i j => cases hv with | osub h h1 h2 h3 => exact .osub (by simpa using h) h1 h2 h3
  | orow k i => cases hv with | orow h h1 => exact .orow (by simpa using h) h1
  | orptr k i j => cases hv with | orptr h h1 => exact .orptr (by simpa using h) h1
  | _ => exact hf.elim
theorem getD_mem_any {l : List AV} {p : AV → Prop} (h : ∀ a ∈ l, p a) (hany : p .any) (i : Nat) : p (l.getD i .any) := by
  rw [List.getD_eq_getElem?_getD]
  cases e : l[i]? with
  | none => exact hany
  | some a => exact h a (List.mem_of_getElem? e)
theorem RV.unsh1 {v : Value} {a : AV} (hf : a.fl1) (hv : RV w ok (g0 :: gs) v (a.sh1 1)) : RV w ok' gs v a := by
  cases a with
  | agg l => cases hv with | agg h1 h3 h2 => exact .agg (by simpa using h1) h3 (fun i => RV.unsh0 (getD_mem_any hf trivial i) (by have := h2 i; rw [getD_map_any _ rfl] at this; exact this))
  | any => exact .any v
  | val u => exact RV.unsh0 (a := .val u) trivial hv
  | own k => exact RV.unsh0 (a := .own k) trivial hv
  | optr k i => exact RV.unsh0 (a := .optr k i) trivial hv
  | osub k i j => exact RV.unsh0 (a := .osub k i j) trivial hv
  | orow k i => exact RV.unsh0 (a := .orow k i) trivial hv
  | orptr k i j => exact RV.unsh0 (a := .orptr k i j) trivial hv
  | _ => exact hf.elim
theorem RV.unsh {v : Value} {a : AV} (hf : a.fl) (hv : RV w ok (g0 :: gs) v (a.sh 1)) : RV w ok' gs v a := by
  cases a with
  | agg l => exact RV.unsh1 (a := .agg l) hf hv
  | tup l => cases hv with | tup h1 h2 => exact .tup (by simpa using h1) (fun i => RV.unsh1 (getD_mem_any hf trivial i) (by have := h2 i; rw [getD_map_any _ rfl] at this; exact this))
  | any => exact .any v
  | val u => exact RV.unsh0 (a := .val u) trivial hv
  | own k => exact RV.unsh0 (a := .own k) trivial hv
  | optr k i => exact RV.unsh0 (a := .optr k i) trivial hv
  | osub k i j => exact RV.unsh0 (a := .osub k i j) trivial hv
  | orow k i => exact RV.unsh0 (a := .orow k i) trivial hv
  | orptr k i j => exact RV.unsh0 (a := .orptr k i j) trivial hv
  | _ => exact hf.elim
end

/-- The function uses up the objects 'objs', which its arguments name, and hands back r over the objects os', of which Q speaks. All else is as it was. -/
def AFnC (P : Program) (f : FuncId) (args : List AV) (objs : List AO) (Q : AV → List AO → Prop) : Prop :=
  HasBody P f ∧ ∀ base w gs vs, base ≤ w.heap.size → Objs base w gs objs → vs.size = args.length → (∀ i : Nat, RV w (okOf gs objs) gs (vs.getD i undef) (args.getD i .any)) →
    Calls P f vs w fun e w' => ∃ v r os' gs', e = .returned v ∧ Q r os' ∧ Objs base w' gs' os' ∧ RV w' (fun _ => False) gs' v r ∧
      (∀ (h : Nat) g, gs'[h]? = some g → ∀ b, b ∈ g.bl → (∃ (k : Nat) (g0 : Gh), gs[k]? = some g0 ∧ b ∈ g0.bl) ∨ w.heap.size ≤ b) ∧ Below base w w' ∧ ∀ b, b < w.heap.size → (∀ (h : Nat) g, gs[h]? = some g → b ∉ g.bl) → w'.heap[b]? = w.heap[b]?

theorem AFnC.of {P : Program} {f : FuncId} {fn : Func} {c : Code} {args args' : List AV} {objs : List AO} {Q : AV → List AO → Prop} {n : Nat} (hf : P.funcs[f]? = some fn) (hb : fn.body = some c) (hnm : (fn.name == "runtime.NumGoroutine") = false) (hn : fn.ntmps - args.length = n) (ha : args' = args.map (AV.sh 1))
    (h : ∀ K, AWp P c (fun _ _ => False) (fun _ _ _ => False) (fun env os => ∃ env2 os' r, Turns env os env2 (.keep 1 K :: os') ∧ ResIs P fn env2 (.keep 1 K :: os') (r.sh 1) ∧ r.fl ∧ Q r os' ∧ ∀ o ∈ os', o.plain) (Env.start args' n) (.keep 1 K :: objs)) :
    AFnC P f args objs Q := by
  refine ⟨⟨fn, c, hf, hnm, hb⟩, fun base w gs vs hbase hO hsz hvs => calls_of_wp hf hb ?_⟩
  rw [show fn.ntmps - vs.size = n by rw [hsz]; exact hn]
  let bl : List Nat := (List.range w.heap.size).filter fun b => decide (base ≤ b) && gs.all fun g => !g.bl.contains b
  let gk : Gh := ⟨undef, 0, bl, []⟩
  let K : Kp := ⟨fun b => w.heap[b]?, [gk]⟩
  have hbl : ∀ b, b ∈ bl ↔ b < w.heap.size ∧ base ≤ b ∧ ∀ (h : Nat) g, gs[h]? = some g → b ∉ g.bl := by
    intro b
    simp only [bl, List.mem_filter, List.mem_range, Bool.and_eq_true, decide_eq_true_eq, List.all_eq_true, Bool.not_eq_true', List.contains_eq_mem, decide_eq_false_iff_not]
    constructor
    · rintro ⟨h1, h2, h3⟩
      exact ⟨h1, h2, fun h g hg => h3 g (List.mem_of_getElem? hg)⟩
    · rintro ⟨h1, h2, h3⟩
      exact ⟨h1, h2, fun g hg => by obtain ⟨i, hi⟩ := List.getElem?_of_mem hg; exact h3 i g hi⟩
  have hl := hO.hl
  have part : ∀ {i : Nat} {x : Gh} {y : AO}, (gk :: gs)[i]? = some x → (AO.keep 1 K :: objs)[i]? = some y → (∃ j, i = j + 1 ∧ gs[j]? = some x ∧ objs[j]? = some y) ∨ (i = 0 ∧ x = gk ∧ y = .keep 1 K) := by
    intro i x y hx hy
    match i, hx, hy with
    | 0, hx, hy => simp at hx hy; exact .inr ⟨rfl, hx.symm, hy.symm⟩
    | j + 1, hx, hy => exact .inl ⟨j, rfl, by simpa using hx, by simpa using hy⟩
  have hkeep : Keeps (okOf gs objs) (okOf (gk :: gs) (.keep 1 K :: objs)) w w := by
    intro b hbk _
    refine ⟨fun i x y hx hy hny hm => ?_, rfl⟩
    rcases part hx hy with ⟨j, rfl, h1, h2⟩ | ⟨_, _, rfl⟩
    · exact hbk j x y h1 h2 hny hm
    · exact hny.elim
  have hrel : Rel base w (gk :: gs) (Env.start args' n) (.keep 1 K :: objs) (vs ++ Array.replicate n undef) := by
    refine ⟨hbase, by simp [hl], by simp [Env.start, hsz, ha], fun i => start_rv args' n vs (fun i => ?_) i, ?_, ?_, ?_⟩
    · rw [ha, getD_map_any _ rfl]
      have := (hvs i).sh (gs0 := [gk]) hkeep
      exact this
    · intro i x y hx hy
      rcases part hx hy with ⟨j, rfl, h1, h2⟩ | ⟨_, rfl, rfl⟩
      · exact (hO.hp y (List.mem_of_getElem? h2)).ro (hO.ho j x y h1 h2)
      · exact ⟨fun b _ => rfl, rfl, fun i x h => by
            match i with
            | 0 => exact h
            | i + 1 => simp [K] at h⟩
    · intro i j g1 g2 o1 o2 hij hg1 hg2 ho1 ho2 _ _ b hb1 hb2
      rcases part hg1 ho1 with ⟨i', rfl, a1, a2⟩ | ⟨rfl, rfl, _⟩
      · rcases part hg2 ho2 with ⟨j', rfl, b1, b2⟩ | ⟨rfl, rfl, _⟩
        · exact hO.hd i' j' g1 g2 (by omega) a1 b1 b hb1 hb2
        · exact ((hbl b).1 hb2).2.2 i' g1 a1 hb1
      · rcases part hg2 ho2 with ⟨j', rfl, b1, b2⟩ | ⟨rfl, _, _⟩
        · exact ((hbl b).1 hb1).2.2 j' g2 b1 hb2
        · omega
    · intro i x y hx hy _ b hb
      rcases part hx hy with ⟨j, rfl, h1, h2⟩ | ⟨_, rfl, _⟩
      · exact hO.hn j x h1 b hb
      · exact ⟨((hbl b).1 hb).2.1, ((hbl b).1 hb).1⟩
  refine wp_mono (h K base w w _ _ hrel (Below.refl _ _)) ?_
  intro e a w' hq
  cases e with
  | normal => obtain ⟨_, _, _, _, _, _, hx⟩ := hq; exact hx.elim
  | exit j => obtain ⟨_, _, _, _, _, _, hx⟩ := hq; exact hx.elim
  | ret =>
    obtain ⟨env, os1, gs1, hr1, hd, hbel, env2, os', r, ht, hres, hfl, hQ, hpl⟩ := hq
    obtain ⟨gs2, hr⟩ := ht base w' gs1 _ hr1
    obtain ⟨v, hu, hv⟩ := hres _ _ _ _ hr
    obtain ⟨g0, gs', rfl⟩ : ∃ g0 gs', gs2 = g0 :: gs' := by
      have := hr.hl
      match gs2 with
      | [] => simp at this
      | a :: b => exact ⟨a, b, rfl⟩
    obtain ⟨r1, r2, r3⟩ := hr.ho 0 _ _ rfl rfl
    have egk : g0 = gk := by
      have := r3 0 gk rfl
      exact Option.some.inj this
    subst egk
    have hl' : gs'.length = os'.length := by have := hr.hl; simpa using this
    have hno : ∀ (i : Nat) x o, gs'[i]? = some x → os'[i]? = some o → ∀ b, b ∈ x.bl → base ≤ b ∧ b < w'.heap.size := fun i x o hx ho b hb =>
      hr.hn (i + 1) x o (by simpa using hx) (by simpa using ho) (hpl o (List.mem_of_getElem? ho)).live.ne b hb
    have obj : ∀ {i : Nat} {x : Gh}, gs'[i]? = some x → ∃ o, os'[i]? = some o := fun {i x} hx => by
      have : i < os'.length := by rw [← hl']; exact (List.getElem?_eq_some_iff.1 hx).1
      exact ⟨_, List.getElem?_eq_getElem this⟩
    refine ⟨hd, v, hu, v, r, os', gs', rfl, hQ, ⟨hl', hpl, ?_, ?_, ?_⟩, ?_, ?_, hbel, ?_⟩
    · intro i x o hx ho
      exact (hpl o (List.mem_of_getElem? ho)).ro (hr.ho (i + 1) x o (by simpa using hx) (by simpa using ho))
    · intro i j x y hij hx hy b hb1 hb2
      obtain ⟨o1, h1⟩ := obj hx
      obtain ⟨o2, h2⟩ := obj hy
      exact hr.hd (i + 1) (j + 1) x y o1 o2 (by omega) (by simpa using hx) (by simpa using hy) (by simpa using h1) (by simpa using h2) (hpl o1 (List.mem_of_getElem? h1)).live.ne (hpl o2 (List.mem_of_getElem? h2)).live.ne b hb1 hb2
    · intro i x hx b hb
      obtain ⟨o1, h1⟩ := obj hx
      exact hno i x o1 hx h1 b hb
    · exact RV.unsh (g0 := gk) hfl hv
    · intro i x hx b hb
      obtain ⟨o1, h1⟩ := obj hx
      have hb2 := hno i x o1 hx h1 b hb
      by_cases hbw : b < w.heap.size
      · left
        apply Classical.byContradiction
        intro hnb
        refine hr.hd (i + 1) 0 x gk o1 _ (by omega) (by simpa using hx) rfl (by simpa using h1) rfl (hpl o1 (List.mem_of_getElem? h1)).live.ne (by simp) b hb ((hbl b).2 ⟨hbw, hb2.1, fun k g0 hg hm => hnb ⟨k, g0, hg, hm⟩⟩)
      · right; omega
    · intro b hb hnot
      rcases Nat.lt_or_ge b base with h6 | h6
      · exact hbel.block b h6
      · exact r1 b ((hbl b).2 ⟨hb, h6, hnot⟩)
  | goto l => exact (hq : False).elim
  | panic ch => exact (hq : False).elim
  | outgrown => exact (hq : False).elim
theorem AFnC.start {P : Program} {f : FuncId} {fn : Func} {nt : Nat} {args : List AV} {objs : List AO} {Q : AV → List AO → Prop} (hf : P.funcs[f]? = some fn) (hnt : fn.ntmps = nt) {c : Code} (hb : fn.body = some c) (hnm : (fn.name == "runtime.NumGoroutine") = false)
    (h : ∀ K, AWp P c (fun _ _ => False) (fun _ _ _ => False) (fun env os => ∃ env2 os' r, Turns env os env2 (.keep 1 K :: os') ∧ ResIs P fn env2 (.keep 1 K :: os') (r.sh 1) ∧ r.fl ∧ Q r os' ∧ ∀ o ∈ os', o.plain) (Env.start (args.map (AV.sh 1)) (nt - args.length)) (.keep 1 K :: objs)) :
    AFnC P f args objs Q := AFnC.of hf hb hnm (by rw [hnt]) rfl h
theorem Turns.fit {env : Env} {os : List AO} {env' : Env} {os' : List AO} (f : Fit env os env' os') : Turns env os env' os' := fun _ _ _ _ h => h.fit f
theorem Turns.fits {env : Env} {os : List AO} {env' : Env} {os' : List AO} {σ : List Nat} (f : FitS σ env os env' os') : Turns env os env' os' := fun _ _ _ _ h => h.fits f
theorem Turns.or {env : Env} {os : List AO} {env' : Env} {os' : List AO} (f : Fit env os env' os' ∨ ∃ σ, FitS σ env os env' os') : Turns env os env' os' := by
  rcases f with f | ⟨σ, f⟩
  · exact .fit f
  · exact .fits f

section
variable {P : Program} {env : Env} {os : List AO} {d : Option Tmp} {ty : TypeId} {pos : String} {af : Array Edge} {g : Option (Nat × Bool)}
theorem deadAll_get {H : List Nat} (hn : H.Nodup) {os : List AO} {i : Nat} {y : AO} (h : (setAll os H (H.map fun _ => .dead))[i]? = some y) : (i ∈ H ∧ y = .dead) ∨ (i ∉ H ∧ os[i]? = some y) := by
  rcases setAll_get hn (by simp) h with ⟨k, h1, h2⟩ | h
  · refine .inl ⟨List.mem_of_getElem? h1, ?_⟩
    rw [List.getElem?_map, h1] at h2
    simpa using h2.symm
  · exact .inr h
theorem setAll_len : ∀ (H : List Nat) (os osP : List AO), (setAll os H osP).length = os.length
  | [], os, osP => by cases osP <;> rfl
  | h :: H, os, [] => rfl
  | h :: H, os, o :: osP => by rw [setAll, setAll_len H, List.length_set]
theorem c_callc {f : FuncId} {args : List AV} {objs : List AO} {Q : AV → List AO → Prop} (H : List Nat) (hc : AFnC P f args objs Q) {xs : List Operand} {ats : Array TypeId} (hh : Handed os H objs) (hi : ImmUs os H (xs.map (AV.ev env)) args) :
    COp P ⟨d, .call { callee := .value (.func f), args := xs.toArray, argTypes := ats }, ty, pos, af, g⟩ env os (fun r e o => ∃ r0 os', Q r0 os' ∧ r = r0.sh os.length ∧ e = env ∧ o = setAll os H (H.map fun _ => .dead) ++ os'.map (AO.sh os.length)) := by
  intro base w gs tm hr
  have hg := hi.get
  have hltH : ∀ h ∈ H, h < gs.length := fun h hm => by rw [hr.hl]; exact hh.lt h hm
  refine ⟨f, _, run_call hc.1 xs ats _ rfl w, (hc.2 base w (selG gs H) _ hr.hb (hr.objs hh) (by simpa using hg.1) fun i => ?_).mono ?_⟩
  · have h1 := hg.2 i
    have e1 : (xs.map (AV.ev env)).getD i .any = match xs[i]? with | some x => AV.ev env x | none => .any := by
      simp only [List.getD_eq_getElem?_getD, List.getElem?_map]; cases xs[i]? <;> rfl
    have e2 : (xs.map (Act.eval ⟨tm, []⟩)).toArray.getD i undef = match xs[i]? with | some x => Act.eval ⟨tm, []⟩ x | none => undef := by
      simp only [Array.getD_eq_getD_getElem?, List.getElem?_toArray, List.getElem?_map]; cases xs[i]? <;> rfl
    rw [e1] at h1
    rw [e2]
    cases hx : xs[i]? with
    | some x => rw [hx] at h1; exact h1.rv hr hh (hr.ev x)
    | none => rw [hx] at h1; exact h1.rv hr hh (.any _)
  · rintro e w' ⟨v, r, os', gs', rfl, hQ, hO', hv, hbl, hbel, hfr⟩
    have hl := hr.hl
    have hl' := hO'.hl
    have hlive : ∀ h, h ∈ H → ∃ o, os[h]? = some o ∧ o.plain := fun h hm => by
      obtain ⟨k, hk⟩ := List.getElem?_of_mem hm
      obtain ⟨o', h1, h2, h3⟩ := hh.get hk
      exact ⟨o', h2, h3⟩
    have selGet : ∀ {k : Nat} {x : Gh}, (selG gs H)[k]? = some x → ∃ h, h ∈ H ∧ gs[h]? = some x := fun hx => by
      obtain ⟨h, h1, h2⟩ := selG_get hltH hx
      exact ⟨h, List.mem_of_getElem? h1, h2⟩
    -- blocks of what is new
    have hnb : ∀ {i : Nat} {x : Gh}, gs'[i]? = some x → ∀ b, b ∈ x.bl → (∃ h gh, h ∈ H ∧ gs[h]? = some gh ∧ b ∈ gh.bl) ∨ w.heap.size ≤ b := fun hx b hb => by
      rcases hbl _ _ hx b hb with ⟨k, g0, h1, h2⟩ | h1
      · obtain ⟨h, h3, h4⟩ := selGet h1
        exact .inl ⟨h, g0, h3, h4, h2⟩
      · exact .inr h1
    have keepB : ∀ b, b < w.heap.size → (∀ h gh, h ∈ H → gs[h]? = some gh → b ∉ gh.bl) → w'.heap[b]? = w.heap[b]? := fun b hb hno => hfr b hb fun k x hx => by
      obtain ⟨h, h1, h2⟩ := selGet hx
      exact hno h x h1 h2
    let osN := setAll os H (H.map fun _ => .dead) ++ os'.map (AO.sh os.length)
    have hlen1 : (setAll os H (H.map fun _ => AO.dead)).length = gs.length := by rw [setAll_len, hl]
    have split : ∀ {i : Nat} {x : Gh} {y : AO}, (gs ++ gs')[i]? = some x → osN[i]? = some y → y ≠ .dead → (i ∉ H ∧ gs[i]? = some x ∧ os[i]? = some y) ∨ ∃ j o, i = os.length + j ∧ gs'[j]? = some x ∧ os'[j]? = some o ∧ y = o.sh os.length := by
      intro i x y hx hy hne
      by_cases hlt : i < gs.length
      · rw [List.getElem?_append_left hlt] at hx
        simp only [osN] at hy
        rw [List.getElem?_append_left (by rw [hlen1]; exact hlt)] at hy
        rcases deadAll_get hh.nd hy with ⟨_, rfl⟩ | ⟨h1, h2⟩
        · exact absurd rfl hne
        · exact .inl ⟨h1, hx, h2⟩
      · rw [List.getElem?_append_right (by omega)] at hx
        simp only [osN] at hy
        rw [List.getElem?_append_right (by rw [hlen1]; omega), hlen1, List.getElem?_map] at hy
        cases ho : os'[i - gs.length]? with
        | none => rw [ho] at hy; cases hy
        | some o =>
          rw [ho] at hy
          simp only [Option.map_some, Option.some.injEq] at hy
          exact .inr ⟨i - gs.length, o, by omega, hx, ho, hy.symm⟩
    have kp : Keeps (okOf gs os) (okOf (gs ++ gs') osN) w w' := by
      intro b hbk hlt
      refine ⟨fun i x y hx hy hny hm => ?_, keepB b hlt fun h gh hm hg hb => ?_⟩
      · rcases split hx hy hny.ne with ⟨_, h1, h2⟩ | ⟨j, o, _, h1, h2, rfl⟩
        · exact hbk i x y h1 h2 hny hm
        · rcases hnb h1 b hm with ⟨h, gh, hH, hgh, hbm⟩ | h3
          · obtain ⟨o', ho', hp⟩ := hlive h hH
            exact hbk h gh o' hgh ho' hp.live hbm
          · omega
      · obtain ⟨o', ho', hp⟩ := hlive h hm
        exact hbk h gh o' hg ho' hp.live hb
    have hgs : ∀ (i : Nat) g', gs[i]? = some g' → (gs ++ gs')[i]? = some g' := fun i g' e => by
      rw [List.getElem?_append_left (List.getElem?_eq_some_iff.1 e).1]; exact e
    have hplsh : ∀ o : AO, o.plain → (o.sh os.length) = o := fun o ho => by cases o <;> first | rfl | exact ho.elim
    have hsame : ∀ (i : Nat) x y, i ∉ H → gs[i]? = some x → os[i]? = some y → y ≠ .dead → ∀ b, b ∈ x.bl → w'.heap[b]? = w.heap[b]? := fun i x y hiH hx hy hne b hb => by
      refine keepB b (hr.hn i x y hx hy hne b hb).2 fun h gh hH hgh hbm => ?_
      obtain ⟨o', ho', hp⟩ := hlive h hH
      exact hr.hd i h x gh y o' (fun e => hiH (e ▸ hH)) hx hgh hy ho' hne hp.live.ne b hb hbm
    refine ⟨v, r.sh os.length, env, osN, gs ++ gs', rfl, ⟨r, os', hQ, rfl, rfl, rfl⟩, ?_, ?_, hbel⟩
    · refine ⟨Nat.le_trans hr.hb hbel.size, ?_, hr.hs, fun i => (hr.he i).mono kp hgs, ?_, ?_, ?_⟩
      · simp only [osN, List.length_append, List.length_map, hlen1, hl']
      · intro i x y hx hy
        by_cases hd : y = .dead
        · subst hd; trivial
        rcases split hx hy hd with ⟨h0, h1, h2⟩ | ⟨j, o, _, h1, h2, rfl⟩
        · exact (hr.ho i x y h1 h2).mono kp hgs fun hne b hb => hsame i x y h0 h1 h2 hne b hb
        · have hp := hO'.hp o (List.mem_of_getElem? h2)
          rw [hplsh o hp]
          exact hp.ro (hO'.ho j x o h1 h2)
      · intro i j x1 x2 y1 y2 hij hx1 hx2 hy1 hy2 hn1 hn2 b hb1 hb2
        rcases split hx1 hy1 hn1 with ⟨a0, a1, a2⟩ | ⟨j1, o1, e1, a1, a2, rfl⟩
        · rcases split hx2 hy2 hn2 with ⟨c0, c1, c2⟩ | ⟨j2, o2, e2, c1, c2, rfl⟩
          · exact hr.hd i j x1 x2 y1 y2 hij a1 c1 a2 c2 hn1 hn2 b hb1 hb2
          · rcases hnb c1 b hb2 with ⟨h, gh, hH, hgh, hbm⟩ | h3
            · obtain ⟨o', ho', hp⟩ := hlive h hH
              exact hr.hd i h x1 gh y1 o' (fun e => a0 (e ▸ hH)) a1 hgh a2 ho' hn1 hp.live.ne b hb1 hbm
            · have := (hr.hn i x1 y1 a1 a2 hn1 b hb1).2; omega
        · rcases split hx2 hy2 hn2 with ⟨c0, c1, c2⟩ | ⟨j2, o2, e2, c1, c2, rfl⟩
          · rcases hnb a1 b hb1 with ⟨h, gh, hH, hgh, hbm⟩ | h3
            · obtain ⟨o', ho', hp⟩ := hlive h hH
              exact hr.hd j h x2 gh y2 o' (fun e => c0 (e ▸ hH)) c1 hgh c2 ho' hn2 hp.live.ne b hb2 hbm
            · have := (hr.hn j x2 y2 c1 c2 hn2 b hb2).2; omega
          · exact hO'.hd j1 j2 x1 x2 (fun e => hij (by omega)) a1 c1 b hb1 hb2
      · intro i x y hx hy hne b hb
        rcases split hx hy hne with ⟨_, h1, h2⟩ | ⟨j, o, _, h1, h2, rfl⟩
        · have := hr.hn i x y h1 h2 hne b hb
          exact ⟨this.1, Nat.lt_of_lt_of_le this.2 hbel.size⟩
        · exact hO'.hn j x h1 b hb
    · have := hv.sh (ok' := okOf (gs ++ gs') osN) (gs0 := gs) (fun b hbk _ => hbk.elim)
      rw [hl] at this; exact this
end
section
variable {P : Program} {env : Env} {os : List AO} {d : Tmp} {ty : TypeId} {pos : String} {af : Array Edge} {l rest : List Oper} {K : APost}
theorem w_callc {f : FuncId} {args : List AV} {objs : List AO} {Q : AV → List AO → Prop} {xs : List Operand} {ats : Array TypeId} (H : List Nat) {m : Nat} (hc : AFnC P f args objs Q) (hm : os.length = m) (hh : Handed os H objs) (hi : ImmUs os H (xs.map (AV.ev env)) args)
    (h' : ∀ r os0, Q r os0 → AOps P .seq l rest K (env.up d (r.sh m)) (setAll os H (H.map fun _ => .dead) ++ os0.map (AO.sh m))) :
    AOps P .seq l (⟨some d, .call { callee := .value (.func f), args := xs.toArray, argTypes := ats }, ty, pos, af, none⟩ :: rest) K env os := by
  subst hm
  exact AOps.ca (c_callc H hc hh hi) fun r e o ⟨r0, os0, hq, h1, h2, h3⟩ => by subst h1; subst h2; subst h3; exact h' r0 os0 hq
theorem handed3 {h1 h2 h3 : Nat} {o1 o2 o3 : AO} (ho1 : os[h1]? = some o1) (ho2 : os[h2]? = some o2) (ho3 : os[h3]? = some o3) (hne : ((h1 == h2) || (h1 == h3) || (h2 == h3)) = false) (hp1 : o1.plain) (hp2 : o2.plain) (hp3 : o3.plain) : Handed os [h1, h2, h3] [o1, o2, o3] := by
  simp only [Bool.or_eq_false_iff, beq_eq_false_iff_ne] at hne
  obtain ⟨⟨n1, n2⟩, n3⟩ := hne
  refine ⟨by simp [n1, n2, n3], fun k h hk => ?_, rfl, fun o ho => ?_⟩
  · match k, hk with
    | 0, hk => simp at hk; subst hk; exact ho1.symm
    | 1, hk => simp at hk; subst hk; exact ho2.symm
    | 2, hk => simp at hk; subst hk; exact ho3.symm
  · simp at ho
    rcases ho with rfl | rfl | rfl
    · exact hp1
    · exact hp2
    · exact hp3
end
end Go.Proofs.Ytifkgmbghcmdeaa
/-
  A row of an own slice of rows is handed to a function that writes to it. No condition.
-/
namespace Go.Proofs.Ytifkgmbghcmdeaa
open Go Go.RowKit

section
variable {P : Program} {env : Env} {os : List AO} {d : Tmp} {ty : TypeId} {pos : String} {af : Array Edge} {l rest : List Oper} {K : APost}
end

end Go.Proofs.Ytifkgmbghcmdeaa
/-
  A literal slice of one row, as an own slice of rows. No condition.
-/
namespace Go.Proofs.Ytifkgmbghcmdeaa
open Go Go.RowKit
section
variable {P : Program} {env : Env} {os : List AO} {d : Option Tmp} {ty : TypeId} {pos : String} {af : Array Edge} {g : Option (Nat × Bool)}

end
section
variable {P : Program} {env : Env} {os : List AO} {d : Tmp} {ty : TypeId} {pos : String} {af : Array Edge} {l rest : List Oper} {K : APost}
end
section
variable {P : Program} {N : APost} {X : Nat → APost} {Rt : APost} {env : Env} {os : List AO}
/-- A loop whose rounds may number the objects anew. -/
theorem AWp.loopS {c : Code} {ι : Type} (E : ι → Env) (O : ι → List AO) (φ : ι → Prop) (μ : ι → Nat) (x0 : ι) (h0 : φ x0) (f0 : Fit env os (E x0) (O x0))
    (round : ∀ x, φ x → AWp P c (fun env' os' => ∃ y, φ y ∧ μ y < μ x ∧ (Fit env' os' (E y) (O y) ∨ ∃ σ, FitS σ env' os' (E y) (O y))) X Rt (E x) (O x)) : AWp P (.loop c) N X Rt env os := by
  intro base w0 w gs tm hr hb
  obtain ⟨gs0, hr0⟩ := hr.fit f0
  refine wp_loop_ghost (fun n a w' => ∃ x gs', φ x ∧ μ x = n ∧ Rel base w' gs' (E x) (O x) a.tmps ∧ a.defers = [] ∧ Below base w0 w') (μ x0) ⟨x0, gs0, h0, rfl, hr0, rfl, hb⟩ ?_
  rintro n a w1 ⟨x, gs1, hφ, rfl, hr1, hd, hb1⟩
  have ea : a = ⟨a.tmps, []⟩ := by cases a; simp_all
  rw [ea]
  refine wp_mono (round x hφ base w0 w1 gs1 a.tmps hr1 hb1) ?_
  intro e a' w' hq
  cases e with
  | normal =>
    obtain ⟨env', os', gs', r1, r2, r3, y, hy, hlt, hf⟩ := hq
    rcases hf with hf | ⟨σ, hf⟩
    · obtain ⟨gs2, hr2⟩ := r1.fit hf
      exact ⟨μ y, hlt, y, gs2, hy, rfl, hr2, r2, r3⟩
    · obtain ⟨gs2, hr2⟩ := r1.fits hf
      exact ⟨μ y, hlt, y, gs2, hy, rfl, hr2, r2, r3⟩
  | exit j => exact hq
  | ret => exact hq
  | goto l => exact hq
  | panic ch => exact hq
  | outgrown => exact hq
end

end Go.Proofs.Ytifkgmbghcmdeaa
/-
  Functions without results that write to what they are handed. No condition.
-/
namespace Go.Proofs.Ytifkgmbghcmdeaa
open Go Go.RowKit
theorem AFnUN.of {P : Program} {f : FuncId} {fn : Func} {c : Code} {args : List AV} {os : List AO} {Q : Value → List AO → Prop} {n : Nat} (hf : P.funcs[f]? = some fn) (hb : fn.body = some c) (hnm : (fn.name == "runtime.NumGoroutine") = false) (hn : fn.ntmps - args.length = n)
    (h : ∀ K, AWp P c (fun env os1 => ∃ v os', ResIs P fn env os1 (.val v) ∧ Q v os' ∧ os1.take os.length = os' ∧ os1[os.length]? = some (.keep (os.length + 1) K) ∧ ∀ o ∈ os', o.plain) (fun _ _ _ => False) (fun env os1 => ∃ v os', ResIs P fn env os1 (.val v) ∧ Q v os' ∧ os1.take os.length = os' ∧ os1[os.length]? = some (.keep (os.length + 1) K) ∧ ∀ o ∈ os', o.plain) (Env.start args n) (os ++ [.keep (os.length + 1) K])) :
    AFnU P f args os Q := by
  refine ⟨⟨fn, c, hf, hnm, hb⟩, fun base w gs vs hbase hO hsz hvs => calls_of_wp hf hb ?_⟩
  rw [show fn.ntmps - vs.size = n by rw [hsz]; exact hn]
  let bl : List Nat := (List.range w.heap.size).filter fun b => decide (base ≤ b) && gs.all fun g => !g.bl.contains b
  let gk : Gh := ⟨undef, 0, bl, []⟩
  let K : Kp := ⟨fun b => w.heap[b]?, gs ++ [gk]⟩
  have hbl : ∀ b, b ∈ bl ↔ b < w.heap.size ∧ base ≤ b ∧ ∀ (h : Nat) g, gs[h]? = some g → b ∉ g.bl := by
    intro b
    simp only [bl, List.mem_filter, List.mem_range, Bool.and_eq_true, decide_eq_true_eq, List.all_eq_true, Bool.not_eq_true', List.contains_eq_mem, decide_eq_false_iff_not]
    constructor
    · rintro ⟨h1, h2, h3⟩
      exact ⟨h1, h2, fun h g hg => h3 g (List.mem_of_getElem? hg)⟩
    · rintro ⟨h1, h2, h3⟩
      exact ⟨h1, h2, fun g hg => by obtain ⟨i, hi⟩ := List.getElem?_of_mem hg; exact h3 i g hi⟩
  have hl := hO.hl
  have part : ∀ {i : Nat} {x : Gh} {y : AO}, (gs ++ [gk])[i]? = some x → (os ++ [.keep (os.length + 1) K])[i]? = some y → (gs[i]? = some x ∧ os[i]? = some y) ∨ (i = os.length ∧ x = gk ∧ y = .keep (os.length + 1) K) := by
    intro i x y hx hy
    rcases append_one hx with ⟨h1, h2⟩ | ⟨h1, rfl⟩
    · rcases append_one hy with ⟨h3, h4⟩ | ⟨h3, rfl⟩
      · exact .inl ⟨h2, h4⟩
      · omega
    · rcases append_one hy with ⟨h3, h4⟩ | ⟨h3, rfl⟩
      · omega
      · exact .inr ⟨h3, rfl, rfl⟩
  have gl : ∀ (i : Nat) x, gs[i]? = some x → (gs ++ [gk])[i]? = some x := fun i x e => by
    rw [List.getElem?_append_left (List.getElem?_eq_some_iff.1 e).1]; exact e
  have kp : Keeps (okOf gs os) (okOf (gs ++ [gk]) (os ++ [.keep (os.length + 1) K])) w w := by
    intro b hbk _
    refine ⟨fun i x y hx hy hny hm => ?_, rfl⟩
    rcases part hx hy with ⟨h1, h2⟩ | ⟨_, _, rfl⟩
    · exact hbk i x y h1 h2 hny hm
    · exact hny.elim
  have hrel : Rel base w (gs ++ [gk]) (Env.start args n) (os ++ [.keep (os.length + 1) K]) (vs ++ Array.replicate n undef) := by
    refine ⟨hbase, by simp [hl], by simp [Env.start, hsz], fun i => ?_, ?_, ?_, ?_⟩
    · exact start_rv args n vs (fun i => (hvs i).mono kp gl) i
    · intro i x y hx hy
      rcases part hx hy with ⟨h1, h2⟩ | ⟨_, rfl, rfl⟩
      · exact (hO.hp y (List.mem_of_getElem? h2)).ro (hO.ho i x y h1 h2)
      · exact ⟨fun b _ => rfl, by simp [K, hl], fun i x h => h⟩
    · intro i j g1 g2 o1 o2 hij hg1 hg2 ho1 ho2 _ _ b hb1 hb2
      rcases part hg1 ho1 with ⟨a1, a2⟩ | ⟨a1, rfl, _⟩
      · rcases part hg2 ho2 with ⟨b1, b2⟩ | ⟨_, rfl, _⟩
        · exact hO.hd i j g1 g2 hij a1 b1 b hb1 hb2
        · exact ((hbl b).1 hb2).2.2 i g1 a1 hb1
      · rcases part hg2 ho2 with ⟨b1, b2⟩ | ⟨b1, _, _⟩
        · exact ((hbl b).1 hb1).2.2 j g2 b1 hb2
        · omega
    · intro i x y hx hy _ b hb
      rcases part hx hy with ⟨h1, h2⟩ | ⟨_, rfl, _⟩
      · exact hO.hn i x h1 b hb
      · exact ⟨((hbl b).1 hb).2.1, ((hbl b).1 hb).1⟩
  refine wp_mono (h K base w w _ _ hrel (Below.refl _ _)) ?_
  intro e a w' hq
  cases e with
  | normal =>
    obtain ⟨env, os1, gs1, hr, hd, hbel, v, os', h1, h2, h3, h4, h5⟩ := hq
    obtain ⟨u, hu, hv⟩ := h1 _ _ _ _ hr
    cases hv
    have hlt : os.length < os1.length := (List.getElem?_eq_some_iff.1 h4).1
    have hltg : os.length < gs1.length := by have := hr.hl; omega
    obtain ⟨g1, hg1⟩ : ∃ g1, gs1[os.length]? = some g1 := ⟨_, List.getElem?_eq_getElem hltg⟩
    obtain ⟨r1, r2, r3⟩ := hr.ho _ _ _ hg1 h4
    have pin : ∀ (i : Nat) x, gs[i]? = some x → gs1[i]? = some x := fun i x e => r3 i x (gl i x e)
    have egk : g1 = gk := by
      have := r3 os.length gk (by show (gs ++ [gk])[os.length]? = some gk; rw [← hl]; simp)
      rw [hg1] at this
      exact Option.some.inj this
    rw [egk] at r1
    have get' : ∀ {i : Nat} {y : AO}, os'[i]? = some y → os1[i]? = some y ∧ i < os.length := by
      intro i y hy
      rw [← h3, List.getElem?_take] at hy
      split at hy
      · exact ⟨hy, ‹_›⟩
      · cases hy
    refine ⟨hd, v, hu, v, os', rfl, h2, ⟨?_, h5, ?_, hO.hd, ?_⟩, hbel, ?_⟩
    · rw [← h3, List.length_take]; omega
    · intro i x y hx hy
      obtain ⟨h6, h7⟩ := get' hy
      exact (h5 y (List.mem_of_getElem? hy)).ro (hr.ho i x y (pin i x hx) h6)
    · intro i x hx b hb
      have := hO.hn i x hx b hb
      exact ⟨this.1, Nat.lt_of_lt_of_le this.2 hbel.size⟩
    · intro b hb hnot
      rcases Nat.lt_or_ge b base with h6 | h6
      · exact hbel.block b h6
      · exact r1 b ((hbl b).2 ⟨hb, h6, hnot⟩)
  | exit j => obtain ⟨_, _, _, _, _, _, hx⟩ := hq; exact hx.elim
  | ret =>
    obtain ⟨env, os1, gs1, hr, hd, hbel, v, os', h1, h2, h3, h4, h5⟩ := hq
    obtain ⟨u, hu, hv⟩ := h1 _ _ _ _ hr
    cases hv
    have hlt : os.length < os1.length := (List.getElem?_eq_some_iff.1 h4).1
    have hltg : os.length < gs1.length := by have := hr.hl; omega
    obtain ⟨g1, hg1⟩ : ∃ g1, gs1[os.length]? = some g1 := ⟨_, List.getElem?_eq_getElem hltg⟩
    obtain ⟨r1, r2, r3⟩ := hr.ho _ _ _ hg1 h4
    have pin : ∀ (i : Nat) x, gs[i]? = some x → gs1[i]? = some x := fun i x e => r3 i x (gl i x e)
    have egk : g1 = gk := by
      have := r3 os.length gk (by show (gs ++ [gk])[os.length]? = some gk; rw [← hl]; simp)
      rw [hg1] at this
      exact Option.some.inj this
    rw [egk] at r1
    have get' : ∀ {i : Nat} {y : AO}, os'[i]? = some y → os1[i]? = some y ∧ i < os.length := by
      intro i y hy
      rw [← h3, List.getElem?_take] at hy
      split at hy
      · exact ⟨hy, ‹_›⟩
      · cases hy
    refine ⟨hd, v, hu, v, os', rfl, h2, ⟨?_, h5, ?_, hO.hd, ?_⟩, hbel, ?_⟩
    · rw [← h3, List.length_take]; omega
    · intro i x y hx hy
      obtain ⟨h6, h7⟩ := get' hy
      exact (h5 y (List.mem_of_getElem? hy)).ro (hr.ho i x y (pin i x hx) h6)
    · intro i x hx b hb
      have := hO.hn i x hx b hb
      exact ⟨this.1, Nat.lt_of_lt_of_le this.2 hbel.size⟩
    · intro b hb hnot
      rcases Nat.lt_or_ge b base with h6 | h6
      · exact hbel.block b h6
      · exact r1 b ((hbl b).2 ⟨hb, h6, hnot⟩)
  | goto l => exact (hq : False).elim
  | panic ch => exact (hq : False).elim
  | outgrown => exact (hq : False).elim


theorem AFnUN.start {P : Program} {f : FuncId} {fn : Func} {c : Code} {args : List AV} {objs : List AO} {Q : Value → List AO → Prop} {m : Nat} (hf : P.funcs[f]? = some fn) (hn : fn.ntmps = m) (hb : fn.body = some c) (hnm : (fn.name == "runtime.NumGoroutine") = false)
    (h : ∀ K, AWp P c (fun env os1 => ∃ v os', ResIs P fn env os1 (.val v) ∧ Q v os' ∧ os1.take objs.length = os' ∧ os1[objs.length]? = some (.keep (objs.length + 1) K) ∧ ∀ o ∈ os', o.plain) (fun _ _ _ => False) (fun env os1 => ∃ v os', ResIs P fn env os1 (.val v) ∧ Q v os' ∧ os1.take objs.length = os' ∧ os1[objs.length]? = some (.keep (objs.length + 1) K) ∧ ∀ o ∈ os', o.plain) (Env.start args (m - args.length)) (objs ++ [.keep (objs.length + 1) K])) :
    AFnU P f args objs Q := AFnUN.of hf hb hnm (by rw [hn]) h
theorem ResIs.unit {P : Program} {fn : Func} {env : Env} {os : List AO} (h : fn.results = #[]) : ResIs P fn env os (.val (.tuple #[])) :=
  fun _ _ _ tm hr => ⟨.tuple #[], by unfold results; rw [h]; simp, .val _⟩
end Go.Proofs.Ytifkgmbghcmdeaa
/-
  Rows over the field of 55441 elements: the program and the reference reduce a row. No condition but bounds.
-/
namespace Go.Proofs.Ytifkgmbghcmdeaa
open Go Go.RowKit
attribute [local irreducible] AWp AOps ResIs Ret1 QOp LOp COp AFnV AFn Imms LeE LeO
set_option maxHeartbeats 1000000
set_option linter.unusedSimpArgs false
set_option linter.unusedVariables false

theorem inverse_c (z : Int) (hz : 0 ≤ z ∧ z ≤ 55440) : AFnV Try.prog 84 [.i z] (.int .i64 (pwF z 55439)) := by
  (refine AFnV.start Try.func84 Try.ntmps84 rfl (by kernel_rfl) fun hk => ?_; simp only [Env.start, enumF, List.length_cons, List.length_nil, Nat.reduceAdd, Nat.reduceSub, List.cons_append, List.nil_append])
  repeat' (first | (apply AOps.nil; try simp only [List.nil_append, List.cons_append, List.set_cons_zero, List.set_cons_succ, List.length_cons, List.length_nil, Nat.reduceAdd, AV.sh, AV.sh1, AV.sh0, AO.sh, List.map_cons, List.map_nil, Nat.zero_add, Nat.add_zero, setAll]) | (apply w_move; exact rfl; exact rfl) | (apply w_assign; exact rfl; exact rfl) | apply AWp.seq | apply AWp.region | apply AWp.ret | (apply w_call (power_c z 55439 hz (by omega)); exact rfl; exact rfl; focus ((repeat (first | exact im_nil | refine im_cons rfl (.val _) ?_)); done)))
  all_goals exact .int Try.results84 rfl rfl
theorem clone_c (xs : List Int) (h1 : 0 < xs.length) (h2 : xs.length ≤ 1048576) : AFn Try.prog 83 [.ints xs] (IsInts 2 xs) := by
  (refine AFn.start Try.func83 Try.ntmps83 rfl (by kernel_rfl) fun hk => ?_; simp only [Env.start, enumF, List.length_cons, List.length_nil, Nat.reduceAdd, Nat.reduceSub, List.cons_append, List.nil_append])
  repeat' (first | (apply AOps.nil; try simp only [List.nil_append, List.cons_append, List.set_cons_zero, List.set_cons_succ, List.length_cons, List.length_nil, Nat.reduceAdd, AV.sh, AV.sh1, AV.sh0, AO.sh, List.map_cons, List.map_nil, Nat.zero_add, Nat.add_zero, setAll]) | (apply w_move; exact rfl; exact rfl) | (apply w_assign; exact rfl; exact rfl) | apply AWp.seq | apply AWp.region | (apply AWp.condF; exact rfl) | apply AWp.ret | apply AWp.skip | (apply w_eqnil; iterate 2 exact rfl) | (apply w_bs0; iterate 1 exact rfl) | (apply w_app; exact rfl; exact rfl; exact rfl; exact rfl; (exact .ints _); rotate_left 1; simp only [Env.mp, List.map_cons, List.map_nil, List.set_cons_zero, List.set_cons_succ, AV.kill, AV.kill1, AO.kill, AV.noRow, AV.noRow1, AO.via, reduceIte, Nat.reduceEqDiff, Nat.reduceLT, Env.up, Nat.zero_ne_one, Nat.one_ne_zero, Nat.reduceAdd, List.cons_append, List.nil_append]; rotate_left 1) | omega | (simp <;> omega))
  all_goals exact ⟨_, _, _, .v1 Try.results83 rfl, .sli rfl, rfl, rfl⟩

set_option maxHeartbeats 4000000 in
theorem add_c (m : Nat) (L : Rws) (hL : RwOk m L) (row : List Int) (hl : row.length = m) (hm : 1 ≤ m ∧ m ≤ 10000) (hr : inF row) :
    AFnE Try.prog 45 [.agg [.own 0], .ints row] 2 L (addR L row) (.tuple #[]) := by
  have hcl := clone_c row (by omega) (by omega)
  (refine AFnE.start Try.func45 Try.ntmps45 rfl (by kernel_rfl) fun K pb => ?_; simp only [Env.start, enumF, List.map_cons, List.map_nil, AV.sh, AV.sh0, List.length_cons, List.length_nil, Nat.reduceAdd, Nat.zero_add, Nat.reduceSub, List.cons_append, List.nil_append])
  repeat' (first | (apply AOps.nil; try simp only [List.nil_append, List.cons_append, List.set_cons_zero, List.set_cons_succ, List.length_cons, List.length_nil, Nat.reduceAdd, AV.sh, AV.sh1, AV.sh0, AO.sh, List.map_cons, List.map_nil, Nat.zero_add, Nat.add_zero, setAll]) | (apply w_move; exact rfl; exact rfl) | (apply w_assign; exact rfl; exact rfl) | apply AWp.seq | apply AWp.region | apply AWp.block | (apply w_len; exact rfl; exact rfl; first | exact .ints _ | exact .intss _ | exact .sli rfl | exact .sls rfl | exact .slr rfl | exact .orow rfl | exact .nil) | (apply w_callm (hcl); (focus ((repeat (first | exact im_nil | refine im_cons rfl (.ints _) ?_)); done)); rintro r os0 ⟨rfl, rfl⟩; try simp only [List.nil_append, List.cons_append, List.set_cons_zero, List.set_cons_succ, List.length_cons, List.length_nil, Nat.reduceAdd, AV.sh, AV.sh1, AV.sh0, AO.sh, List.map_cons, List.map_nil, Nat.zero_add, Nat.add_zero, setAll]) | ((apply w_boxa); iterate 2 exact rfl))
  refine AWp.loop (ι := Nat × List Int) (fun x => ⟨86, [(1, .own 3), (2, .optr 2 0), (14, .i row.length), (15, .i x.1)]⟩) (fun x => [.keep 1 K, .ob (echOb (some pb) 2 L), .bx 63 [.own 1], .sli 2 x.2])
    (fun x => x.1 ≤ m ∧ RdI m x.1 x.2 ∧ redR L (m - x.1) x.2 x.1 = redR L m row 0) (fun x => m - x.1) (0, row) ⟨Nat.zero_le _, ⟨hl, hr, fun k hk => by omega⟩, rfl⟩ ⟨lee rfl (by (repeat (first | exact le_nil | refine le_eq rfl rfl ?_))), by (repeat (first | exact lo_nil | refine lo_eq rfl ?_)), rfl, rfl⟩ ?_
  rintro ⟨p, r⟩ ⟨hp, hI, hred⟩
  dsimp only at hp hI hred
  have hrl := hI.len
  have hin := hI.inf p
  by_cases hpm : p < m
  · have em : m - p = (m - (p + 1)) + 1 := by omega
    rw [em, redR] at hred
    have et : (((p : Nat) : Int).toNat : Int) = (p : Int) := by omega
    by_cases hz : geti r (p : Nat) = 0
    · rw [if_pos hz] at hred
      have hz' : geti r (((p : Nat) : Int).toNat : Nat) = 0 := by rw [et]; exact hz
      repeat' (first | (apply AOps.nil; try simp only [List.nil_append, List.cons_append, List.set_cons_zero, List.set_cons_succ, List.length_cons, List.length_nil, Nat.reduceAdd, AV.sh, AV.sh1, AV.sh0, AO.sh, List.map_cons, List.map_nil, Nat.zero_add, Nat.add_zero, setAll]) | (apply w_move; exact rfl; exact rfl) | (apply w_assign; exact rfl; exact rfl) | apply AWp.seq | apply AWp.region | ((apply AWp.condP; exact rfl) <;> intro h) | apply AWp.block | apply AWp.exit | apply AWp.skip | (apply if_pos'; exact rfl) | omega | ((first | apply w_lss | apply w_eql | apply w_add | apply w_idx | apply w_ld); iterate 3 exact rfl) | (apply w_idxo; exact rfl; exact rfl; (exact .sli rfl); exact rfl) | (apply w_ldo; iterate 4 exact rfl) | (apply inI_of <;> omega))
      exact ⟨(p + 1, r), ⟨by dsimp only; omega, hI.next hz, hred⟩, by dsimp only; omega, ⟨lee rfl (by (repeat (first | exact le_nil | refine le_eq rfl rfl ?_))), by (repeat (first | exact lo_nil | refine lo_eq rfl ?_)), rfl, rfl⟩⟩
    · rw [if_neg hz] at hred
      have hz' : ¬ geti r (((p : Nat) : Int).toNat : Nat) = 0 := by rw [et]; exact hz
      cases hf : fndR L (p : Nat) with
      | none =>
        rw [hf] at hred
        have hinv := inverse_c (geti r (((p : Nat) : Int).toNat : Nat)) (by rw [et]; exact hin)
        rw [show pwF (geti r (((p : Nat) : Int).toNat : Nat)) 55439 = pwF (geti r (p : Nat)) 55439 by rw [et]] at hinv
        have hsb := pwF_in (geti r (p : Nat)) 55439
        generalize hs : pwF (geti r (p : Nat)) 55439 = s at hinv hred hsb
        repeat' (first | (apply AOps.nil; try simp only [List.nil_append, List.cons_append, List.set_cons_zero, List.set_cons_succ, List.length_cons, List.length_nil, Nat.reduceAdd, AV.sh, AV.sh1, AV.sh0, AO.sh, List.map_cons, List.map_nil, Nat.zero_add, Nat.add_zero, setAll]) | (apply w_move; exact rfl; exact rfl) | (apply w_assign; exact rfl; exact rfl) | apply AWp.seq | apply AWp.region | ((apply AWp.condP; exact rfl) <;> intro h) | (apply AWp.condT; exact rfl) | apply AWp.block | apply AWp.exit | apply AWp.skip | (apply if_pos'; exact rfl) | ((first | apply w_lss | apply w_eql | apply w_add | apply w_idx | apply w_ld | apply w_fa | apply w_extv); iterate 3 exact rfl) | (apply w_echmiss (hf); exact rfl; exact rfl; exact rfl; exact rfl; exact rfl) | (apply w_call (hinv); exact rfl; exact rfl; focus ((repeat (first | exact im_nil | refine im_cons rfl (.val _) ?_)); done)) | omega | ((first | apply w_idxs | apply w_lds | apply w_ext); iterate 3 exact rfl) | ((apply w_not); iterate 2 exact rfl) | (apply w_idxo; exact rfl; exact rfl; (exact .sli rfl); exact rfl) | (apply w_ldo; iterate 4 exact rfl) | (apply w_ldb; iterate 5 exact rfl))
        refine AWp.loop (ι := Nat) (fun k => ⟨86, [(1, .own 3), (2, .optr 2 0), (4, .i p), (7, .i s), (8, .i k)]⟩) (fun k => [.keep 1 K, .ob (echOb (some pb) 2 L), .bx 63 [.own 1], .sli 2 (updR r (sclG r s) p k)])
          (fun k => p ≤ k ∧ k ≤ m) (fun k => m - k) p ⟨Nat.le_refl _, by omega⟩ ?_ ?_
        · have e0 := (updR_none r (sclG r s) (Nat.le_refl p)).symm
          exact ⟨lee rfl (by (repeat (first | exact le_nil | refine le_eq rfl rfl ?_))), by (repeat (first | exact lo_nil | refine lo_eq rfl ?_ | refine lo_eq (congrArg (AO.sli _) (e0)) ?_)), rfl, rfl⟩
        rintro k ⟨k0, k1⟩
        have ul := updR_len r (sclG r s) p k
        by_cases hk : k < m
        · have ek : (((k : Nat) : Int).toNat : Int) = (k : Int) := by omega
          have ek2 : ((k : Nat) : Int).toNat = k := by omega
          have e1 : geti (updR r (sclG r s) p k) (((k : Nat) : Int).toNat : Nat) = geti r (k : Nat) := by rw [ek, geti_upd (by omega), if_neg (by omega)]
          have b1 := hI.inf k
          have b2 := mulP b1.1 b1.2 hsb.1 hsb.2
          rw [← e1] at b2
          have b3 := modP (geti (updR r (sclG r s) p k) (((k : Nat) : Int).toNat : Nat) * s)
          have e6 : (updR r (sclG r s) p k).set ((k : Nat) : Int).toNat (geti (updR r (sclG r s) p k) (((k : Nat) : Int).toNat : Nat) * s % 55441) = updR r (sclG r s) p (k + 1) := by
            rw [e1, ek2]; exact updR_set k0 (by omega) rfl
          repeat' (first | (apply AOps.nil; try simp only [List.nil_append, List.cons_append, List.set_cons_zero, List.set_cons_succ, List.length_cons, List.length_nil, Nat.reduceAdd, AV.sh, AV.sh1, AV.sh0, AO.sh, List.map_cons, List.map_nil, Nat.zero_add, Nat.add_zero, setAll]) | (apply w_move; exact rfl; exact rfl) | (apply w_assign; exact rfl; exact rfl) | apply AWp.seq | apply AWp.region | ((apply AWp.condP; exact rfl) <;> intro h) | apply AWp.block | apply AWp.exit | apply AWp.skip | (apply w_len; exact rfl; exact rfl; first | exact .ints _ | exact .intss _ | exact .sli rfl | exact .sls rfl | exact .slr rfl | exact .orow rfl | exact .nil) | omega | ((first | apply w_lss | apply w_add | apply w_mul | apply w_idx | apply w_ld); iterate 3 exact rfl) | (apply w_rem; exact rfl; exact rfl; exact rfl; (focus (omega; done)); (focus (omega; done))) | (apply w_idxo; exact rfl; exact rfl; (exact .sli rfl); exact rfl) | (apply w_ldo; iterate 4 exact rfl) | (apply w_sti; exact rfl; exact rfl; rotate_left 1; exact rfl; rotate_left 2) | (apply inI_of <;> omega))
          exact ⟨k + 1, ⟨by omega, by omega⟩, by omega, ⟨lee rfl (by (repeat (first | exact le_nil | refine le_eq rfl rfl ?_))), by (repeat (first | exact lo_nil | refine lo_eq rfl ?_ | refine lo_eq (congrArg (AO.sli _) (e6)) ?_)), rfl, rfl⟩⟩
        · have ek : k = m := by omega
          subst ek
          repeat' (first | (apply AOps.nil; try simp only [List.nil_append, List.cons_append, List.set_cons_zero, List.set_cons_succ, List.length_cons, List.length_nil, Nat.reduceAdd, AV.sh, AV.sh1, AV.sh0, AO.sh, List.map_cons, List.map_nil, Nat.zero_add, Nat.add_zero, setAll]) | (apply w_move; exact rfl; exact rfl) | apply AWp.seq | apply AWp.region | ((apply AWp.condP; exact rfl) <;> intro h) | apply AWp.block | apply AWp.ret | apply AWp.exit | apply AWp.skip | (apply w_len; exact rfl; exact rfl; first | exact .ints _ | exact .intss _ | exact .sli rfl | exact .sls rfl | exact .slr rfl | exact .orow rfl | exact .nil) | ((first | apply w_lss | apply w_idx | apply w_ld | apply w_fa); iterate 3 exact rfl) | (apply w_echset (hf); exact rfl; exact rfl; exact rfl; exact rfl; exact rfl; exact rfl; exact rfl; simp only [Env.mp, List.map_cons, List.map_nil, List.set_cons_zero, List.set_cons_succ, AV.kill, AV.kill1, AO.kill, AV.rin, AV.rin1, AV.noRow, AV.noRow1, AO.via, reduceIte, Nat.reduceEqDiff, Nat.reduceLT, Env.up, Nat.zero_ne_one, Nat.one_ne_zero, Nat.reduceAdd, List.cons_append, List.nil_append]) | omega | (apply w_ldb; iterate 5 exact rfl))
          refine ⟨1, .unit Try.results45, ?_, rfl⟩
          have : addR L row = L ++ [((p : Int), updR r (sclG r s) p k)] := by
            unfold addR
            rw [hl, ← hred, hrl]
          rw [this]; rfl
      | some k0 =>
        rw [hf] at hred
        obtain ⟨hk0, ek0⟩ := fnd_at hf
        obtain ⟨a1, a2, a3, a4, a5, a6⟩ := hL.at_ k0 hk0
        have hnx := hI.red hL hf hpm
        generalize hs : 55441 - geti r (p : Nat) = s at hred hnx
        have hsb : 1 ≤ s ∧ s ≤ 55441 := by omega
        have hs' : 55441 - geti r (((p : Nat) : Int).toNat : Nat) = s := by rw [et]; exact hs
        repeat' (first | (apply AOps.nil; try simp only [List.nil_append, List.cons_append, List.set_cons_zero, List.set_cons_succ, List.length_cons, List.length_nil, Nat.reduceAdd, AV.sh, AV.sh1, AV.sh0, AO.sh, List.map_cons, List.map_nil, Nat.zero_add, Nat.add_zero, setAll]) | (apply w_move; exact rfl; exact rfl) | (apply w_assign; exact rfl; exact rfl) | apply AWp.seq | apply AWp.region | ((apply AWp.condP; exact rfl) <;> intro h) | (apply AWp.condF; exact rfl) | apply AWp.block | apply AWp.exit | apply AWp.skip | (apply if_pos'; exact rfl) | ((first | apply w_lss | apply w_eql | apply w_add | apply w_sub | apply w_idx | apply w_ld | apply w_fa | apply w_extv); iterate 3 exact rfl) | (apply w_echhit (hf); exact rfl; exact rfl; exact rfl; exact rfl; exact rfl) | omega | ((first | apply w_idxs | apply w_lds | apply w_ext); iterate 3 exact rfl) | ((apply w_not); iterate 2 exact rfl) | (apply w_idxo; exact rfl; exact rfl; (exact .sli rfl); exact rfl) | (apply w_ldo; iterate 4 exact rfl) | (apply w_ldb; iterate 5 exact rfl) | (apply inI_of <;> omega))
        rw [hs']
        refine AWp.loop (ι := Nat) (fun k => ⟨86, [(1, .own 3), (2, .optr 2 0), (5, .orow 1 k0), (9, .i s), (10, .i k), (14, .i row.length), (15, .i p)]⟩) (fun k => [.keep 1 K, .ob (echOb (some pb) 2 L), .bx 63 [.own 1], .sli 2 (updR r (adrG r s (rwAt L k0)) p k)])
          (fun k => p ≤ k ∧ k ≤ m) (fun k => m - k) p ⟨Nat.le_refl _, by omega⟩ ?_ ?_
        · have e0 := (updR_none r (adrG r s (rwAt L k0)) (Nat.le_refl p)).symm
          exact ⟨lee rfl (by (repeat (first | exact le_nil | refine le_eq rfl rfl ?_))), by (repeat (first | exact lo_nil | refine lo_eq rfl ?_ | refine lo_eq (congrArg (AO.sli _) (e0)) ?_)), rfl, rfl⟩
        rintro k ⟨k1, k2⟩
        have ul := updR_len r (adrG r s (rwAt L k0)) p k
        by_cases hk : k < m
        · have ek : (((k : Nat) : Int).toNat : Int) = (k : Int) := by omega
          have ek2 : ((k : Nat) : Int).toNat = k := by omega
          have e1 : geti (updR r (adrG r s (rwAt L k0)) p k) (((k : Nat) : Int).toNat : Nat) = geti r (k : Nat) := by rw [ek, geti_upd (by omega), if_neg (by omega)]
          have b1 := hI.inf k
          have c1 := a2 (((k : Nat) : Int).toNat : Nat)
          have b2 : 0 ≤ s * geti (rwAt L k0) (((k : Nat) : Int).toNat : Nat) ∧ s * geti (rwAt L k0) (((k : Nat) : Int).toNat : Nat) ≤ 3073649041 := by
            refine ⟨Int.mul_nonneg (by omega) c1.1, ?_⟩
            have := Int.mul_le_mul hsb.2 c1.2 c1.1 (by omega : (0 : Int) ≤ 55441)
            omega
          have b3 := modP (geti (updR r (adrG r s (rwAt L k0)) p k) (((k : Nat) : Int).toNat : Nat) + s * geti (rwAt L k0) (((k : Nat) : Int).toNat : Nat))
          have e6 : (updR r (adrG r s (rwAt L k0)) p k).set ((k : Nat) : Int).toNat ((geti (updR r (adrG r s (rwAt L k0)) p k) (((k : Nat) : Int).toNat : Nat) + s * geti (rwAt L k0) (((k : Nat) : Int).toNat : Nat)) % 55441) = updR r (adrG r s (rwAt L k0)) p (k + 1) := by
            rw [e1, ek2]; exact updR_set k1 (by omega) rfl
          rw [e1] at b3
          repeat' (first | (apply AOps.nil; try simp only [List.nil_append, List.cons_append, List.set_cons_zero, List.set_cons_succ, List.length_cons, List.length_nil, Nat.reduceAdd, AV.sh, AV.sh1, AV.sh0, AO.sh, List.map_cons, List.map_nil, Nat.zero_add, Nat.add_zero, setAll]) | (apply w_move; exact rfl; exact rfl) | apply AWp.seq | apply AWp.region | ((apply AWp.condP; exact rfl) <;> intro h) | apply AWp.block | apply AWp.exit | apply AWp.skip | (apply w_len; exact rfl; exact rfl; first | exact .ints _ | exact .intss _ | exact .sli rfl | exact .sls rfl | exact .slr rfl | exact .orow rfl | exact .nil) | ((first | apply w_lss | apply w_add); iterate 3 exact rfl) | omega)
          refine AWp.regionA (by kernel_rfl) (envC := ⟨86, [(1, .own 3), (2, .optr 2 0), (5, .orow 1 k0), (9, .i s), (10, .i k), (14, .i row.length), (15, .i p)]⟩) (osC := [.keep 1 K, .ob (echOb (some pb) 2 L), .bx 63 [.own 1], .sli 2 ((updR r (adrG r s (rwAt L k0)) p k).set ((k : Nat) : Int).toNat ((geti (updR r (adrG r s (rwAt L k0)) p k) (((k : Nat) : Int).toNat : Nat) + s * geti (rwAt L k0) (((k : Nat) : Int).toNat : Nat)) % 55441))]) rfl rfl ?_ ?_
          · rw [← e1] at b3 b1
            repeat' (first | (apply AOps.nil; try simp only [List.nil_append, List.cons_append, List.set_cons_zero, List.set_cons_succ, List.length_cons, List.length_nil, Nat.reduceAdd, AV.sh, AV.sh1, AV.sh0, AO.sh, List.map_cons, List.map_nil, Nat.zero_add, Nat.add_zero, setAll]) | (apply w_move; exact rfl; exact rfl) | ((first | apply w_add | apply w_mul | apply w_idx | apply w_ld); iterate 3 exact rfl) | ((first | apply w_echidx | apply w_echld | apply w_stbi); iterate 4 exact rfl) | omega | (apply w_rem; exact rfl; exact rfl; exact rfl; (focus (omega; done)); (focus (omega; done))) | (apply w_idxo; exact rfl; exact rfl; (exact .sli rfl); exact rfl) | (apply w_ldo; iterate 4 exact rfl) | (apply w_sti; exact rfl; exact rfl; rotate_left 1; exact rfl; rotate_left 2) | apply AllOf.nil | (apply AllOf.cons; exact rfl) | (apply AAny.take; exact rfl; exact rfl; kernel_rfl; kernel_rfl) | (apply AAny.all; exact rfl) | (apply AAny.done; exact rfl) | (apply inI_of <;> omega))
            all_goals (apply Or.inl; refine ⟨lee rfl ?_, ?_, rfl, rfl⟩; (focus ((repeat (first | exact le_nil | refine le_eq rfl rfl ?_)); done)); (focus ((repeat (first | exact lo_nil | refine lo_eq rfl ?_)); done)))
          repeat' (first | (apply AOps.nil; try simp only [List.nil_append, List.cons_append, List.set_cons_zero, List.set_cons_succ, List.length_cons, List.length_nil, Nat.reduceAdd, AV.sh, AV.sh1, AV.sh0, AO.sh, List.map_cons, List.map_nil, Nat.zero_add, Nat.add_zero, setAll]) | (apply w_move; exact rfl; exact rfl) | (apply w_assign; exact rfl; exact rfl) | apply AWp.region | ((apply w_add); iterate 3 exact rfl) | (apply inI_of <;> omega))
          exact ⟨k + 1, ⟨by omega, by omega⟩, by omega, ⟨lee rfl (by (repeat (first | exact le_nil | refine le_eq rfl rfl ?_))), by (repeat (first | exact lo_nil | refine lo_eq rfl ?_ | refine lo_eq (congrArg (AO.sli _) (e6)) ?_)), rfl, rfl⟩⟩
        · have ek : k = m := by omega
          subst ek
          repeat' (first | (apply AOps.nil; try simp only [List.nil_append, List.cons_append, List.set_cons_zero, List.set_cons_succ, List.length_cons, List.length_nil, Nat.reduceAdd, AV.sh, AV.sh1, AV.sh0, AO.sh, List.map_cons, List.map_nil, Nat.zero_add, Nat.add_zero, setAll]) | (apply w_move; exact rfl; exact rfl) | apply AWp.seq | apply AWp.region | ((apply AWp.condP; exact rfl) <;> intro h) | apply AWp.block | apply AWp.exit | apply AWp.skip | (apply w_len; exact rfl; exact rfl; first | exact .ints _ | exact .intss _ | exact .sli rfl | exact .sls rfl | exact .slr rfl | exact .orow rfl | exact .nil) | ((first | apply w_lss | apply w_add); iterate 3 exact rfl) | omega | (apply inI_of <;> omega))
          have e0 : updR r (adrG r s (rwAt L k0)) p k = updR r (adrG r s (rwAt L k0)) p r.length := by rw [hrl]
          exact ⟨(p + 1, updR r (adrG r s (rwAt L k0)) p r.length), ⟨by dsimp only; omega, hnx, hred⟩, by dsimp only; omega, ⟨lee rfl (by (repeat (first | exact le_nil | refine le_eq rfl rfl ?_))), by (repeat (first | exact lo_nil | refine lo_eq rfl ?_ | refine lo_eq (congrArg (AO.sli _) (e0)) ?_)), rfl, rfl⟩⟩
  · have e : p = m := by omega
    subst e
    repeat' (first | (apply AOps.nil; try simp only [List.nil_append, List.cons_append, List.set_cons_zero, List.set_cons_succ, List.length_cons, List.length_nil, Nat.reduceAdd, AV.sh, AV.sh1, AV.sh0, AO.sh, List.map_cons, List.map_nil, Nat.zero_add, Nat.add_zero, setAll]) | (apply w_move; exact rfl; exact rfl) | (apply w_assign; exact rfl; exact rfl) | apply AWp.seq | apply AWp.region | ((apply AWp.condP; exact rfl) <;> intro h) | apply AWp.block | apply AWp.exit | apply AWp.skip | (apply if_pos'; exact rfl) | omega | ((apply w_lss); iterate 3 exact rfl))
    rw [Nat.sub_self, redR] at hred
    refine ⟨1, .unit Try.results45, ?_, rfl⟩
    have : addR L row = L := by unfold addR; rw [hl, ← hred]
    rw [this]; rfl

/-! ### The reference -/
def rowsOf (L : Rws) : List (List Int) := L.map (·.2)
def valsOf (L : Rws) : List Int := L.map (·.1)
theorem rowsOf_len (L : Rws) : (rowsOf L).length = L.length := by simp [rowsOf]
theorem valsOf_len (L : Rws) : (valsOf L).length = L.length := by simp [valsOf]
theorem rowsOf_getD (L : Rws) (i : Nat) : (rowsOf L).getD i [] = rwAt L i := by
  unfold rowsOf rwAt
  rw [List.getD_eq_getElem?_getD, List.getD_eq_getElem?_getD, List.getElem?_map]
  cases L[i]? <;> rfl
/-- Where a number stands, or -1. -/
def idxI (L : Rws) (p : Int) : Int := match fndR L p with | some k => (k : Int) | none => -1
theorem geti_vals {L : Rws} {j : Nat} (hj : j < L.length) : geti (valsOf L) (j : Nat) = (L[j]).1 := by
  unfold geti valsOf
  rw [Int.toNat_natCast, List.getD_eq_getElem?_getD, List.getElem?_map, List.getElem?_eq_getElem hj]
  rfl
theorem fnd_none {L : Rws} {p : Int} (h : ∀ j : Nat, j < L.length → geti (valsOf L) (j : Nat) ≠ p) : fndR L p = none := by
  unfold fndR
  rw [List.findIdx?_eq_none_iff]
  intro x hx
  obtain ⟨j, hj, rfl⟩ := List.getElem_of_mem hx
  have := h j hj
  rw [geti_vals hj] at this
  exact decide_eq_false this
theorem fnd_some {L : Rws} {p : Int} {i : Nat} (hi : i < L.length) (e : geti (valsOf L) (i : Nat) = p) (h : ∀ j : Nat, j < i → geti (valsOf L) (j : Nat) ≠ p) : fndR L p = some i := by
  unfold fndR
  rw [List.findIdx?_eq_some_iff_getElem]
  refine ⟨hi, ?_, fun j hj => ?_⟩
  · rw [geti_vals hi] at e; exact decide_eq_true e
  · have := h j hj
    rw [geti_vals (by omega)] at this
    simpa using this
theorem l01Index_e (L : Rws) (p : Int) (hn : L.length ≤ 1000000) : AFnV Try.prog 102 [.ints (valsOf L), .i p] (.int .i64 (idxI L p)) := by
  have hl := valsOf_len L
  (refine AFnV.start Try.func102 Try.ntmps102 rfl (by kernel_rfl) fun hk => ?_; simp only [Env.start, enumF, List.length_cons, List.length_nil, Nat.reduceAdd, Nat.reduceSub, List.cons_append, List.nil_append])
  repeat' (first | (apply AOps.nil; try simp only [List.nil_append, List.cons_append, List.set_cons_zero, List.set_cons_succ, List.length_cons, List.length_nil, Nat.reduceAdd, AV.sh, AV.sh1, AV.sh0, AO.sh, List.map_cons, List.map_nil, Nat.zero_add, Nat.add_zero, setAll]) | (apply w_assign; exact rfl; exact rfl) | apply AWp.seq | apply AWp.region | apply AWp.block)
  refine AWp.loop (ι := Nat) (fun i => ⟨19, [(0, .ints (valsOf L)), (1, .i p), (5, .i i)]⟩) (fun _ => []) (fun i => i ≤ L.length ∧ ∀ j : Nat, j < i → geti (valsOf L) (j : Nat) ≠ p) (fun i => L.length - i) 0 ⟨by omega, fun j hj => by omega⟩ ⟨lee rfl (by (repeat (first | exact le_nil | refine le_eq rfl rfl ?_))), by (repeat (exact lo_nil)), rfl, rfl⟩ ?_
  rintro i ⟨h0, h1⟩
  by_cases hi : i < L.length
  · by_cases e : geti (valsOf L) (i : Nat) = p
    · have hf := fnd_some hi e h1
      repeat' (first | (apply AOps.nil; try simp only [List.nil_append, List.cons_append, List.set_cons_zero, List.set_cons_succ, List.length_cons, List.length_nil, Nat.reduceAdd, AV.sh, AV.sh1, AV.sh0, AO.sh, List.map_cons, List.map_nil, Nat.zero_add, Nat.add_zero, setAll]) | (apply w_move; exact rfl; exact rfl) | (apply w_assign; exact rfl; exact rfl) | apply AWp.seq | apply AWp.region | ((apply AWp.condP; exact rfl) <;> intro h) | apply AWp.block | apply AWp.ret | apply AWp.exit | apply AWp.skip | (apply w_len; exact rfl; exact rfl; first | exact .ints _ | exact .intss _ | exact .sli rfl | exact .sls rfl | exact .slr rfl | exact .orow rfl | exact .nil) | omega | ((first | apply w_lss | apply w_eql | apply w_idx | apply w_ld); iterate 3 exact rfl))
      exact .int Try.results102 rfl (by unfold idxI; rw [hf])
    · repeat' (first | (apply AOps.nil; try simp only [List.nil_append, List.cons_append, List.set_cons_zero, List.set_cons_succ, List.length_cons, List.length_nil, Nat.reduceAdd, AV.sh, AV.sh1, AV.sh0, AO.sh, List.map_cons, List.map_nil, Nat.zero_add, Nat.add_zero, setAll]) | (apply w_move; exact rfl; exact rfl) | (apply w_assign; exact rfl; exact rfl) | apply AWp.seq | apply AWp.region | ((apply AWp.condP; exact rfl) <;> intro h) | apply AWp.block | apply AWp.ret | apply AWp.exit | apply AWp.skip | (apply w_len; exact rfl; exact rfl; first | exact .ints _ | exact .intss _ | exact .sli rfl | exact .sls rfl | exact .slr rfl | exact .orow rfl | exact .nil) | omega | ((first | apply w_lss | apply w_eql | apply w_add | apply w_idx | apply w_ld); iterate 3 exact rfl) | (apply inI_of <;> omega))
      refine ⟨i + 1, ⟨hi, fun j hj => ?_⟩, by omega, ⟨lee rfl (by (repeat (first | exact le_nil | refine le_eq rfl rfl ?_))), by (repeat (exact lo_nil)), rfl, rfl⟩⟩
      by_cases e2 : j = i
      · subst e2; exact e
      · exact h1 j (by omega)
  · have e : i = L.length := by omega
    subst e
    repeat' (first | (apply AOps.nil; try simp only [List.nil_append, List.cons_append, List.set_cons_zero, List.set_cons_succ, List.length_cons, List.length_nil, Nat.reduceAdd, AV.sh, AV.sh1, AV.sh0, AO.sh, List.map_cons, List.map_nil, Nat.zero_add, Nat.add_zero, setAll]) | (apply w_move; exact rfl; exact rfl) | (apply w_assign; exact rfl; exact rfl) | apply AWp.seq | apply AWp.region | ((apply AWp.condP; exact rfl) <;> intro h) | apply AWp.block | apply AWp.ret | apply AWp.exit | apply AWp.skip | (apply w_len; exact rfl; exact rfl; first | exact .ints _ | exact .intss _ | exact .sli rfl | exact .sls rfl | exact .slr rfl | exact .orow rfl | exact .nil) | omega | ((apply w_lss); iterate 3 exact rfl))
    exact .int Try.results102 rfl (by unfold idxI; rw [fnd_none h1])

end Go.Proofs.Ytifkgmbghcmdeaa
/-
  Parametrisations: the laws' helpers, and whether a value is one. No condition.
-/
namespace Go.Proofs.Ytifkgmbghcmdeaa
open Go Go.RowKit
attribute [local irreducible] AWp AOps ResIs Ret1 QOp LOp COp AFnV AFn Imms LeE LeO
set_option maxHeartbeats 1000000
set_option linter.unusedSimpArgs false
set_option linter.unusedVariables false

end Go.Proofs.Ytifkgmbghcmdeaa
/-
  Parametrisations: orders and divisors. No condition.
-/
namespace Go.Proofs.Ytifkgmbghcmdeaa
open Go Go.RowKit
attribute [local irreducible] AWp AOps ResIs Ret1 QOp LOp COp AFnV AFn Imms LeE LeO
set_option maxHeartbeats 1000000
set_option linter.unusedSimpArgs false
set_option linter.unusedVariables false

end Go.Proofs.Ytifkgmbghcmdeaa
/-
  The greatest common divisor, in the program and in the model. No condition but that both numbers are no greater than 2^62.
-/
namespace Go.Proofs.Ytifkgmbghcmdeaa
open Go Go.RowKit
attribute [local irreducible] AWp AOps ResIs Ret1 QOp LOp COp AFnV AFn Imms LeE LeO
set_option maxHeartbeats 1000000
set_option linter.unusedSimpArgs false
set_option linter.unusedVariables false

end Go.Proofs.Ytifkgmbghcmdeaa
/-
  Parametrisations: the terms, and whether one is primitive. No condition.
-/
namespace Go.Proofs.Ytifkgmbghcmdeaa
open Go Go.RowKit
attribute [local irreducible] AWp AOps ResIs Ret1 QOp LOp COp AFnV AFn Imms LeE LeO
set_option maxHeartbeats 1000000
set_option linter.unusedSimpArgs false
set_option linter.unusedVariables false

/-- The terms up to k, and the divisor that is left. -/
def tm (n : Int) (cs : List Int) : Nat → List Int × Int
  | 0 => ([n], n)
  | k + 1 => if geti cs k = 0 ∨ (k : Int) % (tm n cs k).2 = 0 then tm n cs k else ((tm n cs k).1 ++ [(k : Int)], (Int.gcd (tm n cs k).2 k : Int))

end Go.Proofs.Ytifkgmbghcmdeaa
/-
  Values of parametrisations: what both sides compute. No condition.
-/
namespace Go.Proofs.Ytifkgmbghcmdeaa
open Go Go.RowKit

/-- A list and a code. -/
def IsRC (T : TypeId) (xs : List Int) (e : Int) (r : AV) (os : List AO) : Prop := r = .tup [.own 0, .i e] ∧ os = [.sli T xs]
theorem geti_app (a b : List Int) (i : Nat) : geti (a ++ b) (i : Nat) = if i < a.length then geti a (i : Nat) else geti b ((i - a.length : Nat) : Nat) := by
  unfold geti
  simp only [Int.toNat_natCast, List.getD_eq_getElem?_getD, List.getElem?_append]
  split <;> rfl
/-- One more row keeps the rows in order. -/
theorem rw_add {m : Nat} {L : Rws} (hL : RwOk m L) {row : List Int} (hl : row.length = m) (hr : inF row) (hinv : ∀ q : Int, 1 ≤ q ∧ q ≤ 55440 → q * pwF q 55439 % 55441 = 1) : RwOk m (addR L row) := by
  unfold addR
  cases hx : redR L row.length row 0 with
  | none => exact hL
  | some t =>
    obtain ⟨t1, t2, t3, t4, t5, t6, q, q1, q2, q3⟩ := redR_ok hL row.length 0 row ⟨hl, hr, fun k hk => by omega⟩ (by omega) t hx
    refine ⟨fun i hi => ?_⟩
    simp only [List.length_append, List.length_cons, List.length_nil] at hi
    by_cases e : i < L.length
    · have e1 : (L ++ [t]).getD i (0, []) = L.getD i (0, []) := by
        rw [List.getD_eq_getElem?_getD, List.getElem?_append_left e, ← List.getD_eq_getElem?_getD]
      unfold rwAt
      simp only [e1]
      exact hL.at_ i e
    · have ei : i = L.length := by omega
      have e1 : (L ++ [t]).getD i (0, []) = t := by rw [ei]; simp [List.getD_eq_getElem?_getD]
      unfold rwAt
      simp only [e1]
      exact ⟨t1, t2, t3, t4, by rw [q3]; exact hinv q ⟨q1, q2⟩, t5⟩
/-- The rows have different numbers. -/
def RwNd (L : Rws) : Prop := L.Pairwise fun a b => a.1 ≠ b.1
theorem nd_add {m : Nat} {L : Rws} (hL : RwOk m L) (hn : RwNd L) {row : List Int} (hl : row.length = m) (hr : inF row) : RwNd (addR L row) := by
  unfold addR
  cases hx : redR L row.length row 0 with
  | none => exact hn
  | some t =>
    obtain ⟨t1, t2, t3, t4, t5, t6, _⟩ := redR_ok hL row.length 0 row ⟨hl, hr, fun k hk => by omega⟩ (by omega) t hx
    refine List.pairwise_append.2 ⟨hn, by simp, fun a ha b hb => ?_⟩
    simp at hb; subst hb
    unfold fndR at t6
    rw [List.findIdx?_eq_none_iff] at t6
    simpa using t6 a ha
theorem rw_len {m : Nat} {L : Rws} (hL : RwOk m L) (hn : RwNd L) : L.length ≤ m := by
  have h1 : (L.map fun t => t.1.toNat).Nodup := by
    unfold List.Nodup
    rw [List.pairwise_map]
    refine List.Pairwise.imp_of_mem (fun {x y} hx hy hxy => ?_) hn
    obtain ⟨i, hi, rfl⟩ := List.getElem_of_mem hx
    obtain ⟨j, hj, rfl⟩ := List.getElem_of_mem hy
    have a := hL.at_ i hi
    have b := hL.at_ j hj
    rw [List.getD_eq_getElem?_getD, List.getElem?_eq_getElem hi] at a
    rw [List.getD_eq_getElem?_getD, List.getElem?_eq_getElem hj] at b
    simp only [Option.getD_some] at a b
    omega
  have h2 := (full_le h1 fun x hx => by
    obtain ⟨t, ht, rfl⟩ := List.mem_map.1 hx
    obtain ⟨i, hi, rfl⟩ := List.getElem_of_mem ht
    have a := hL.at_ i hi
    rw [List.getD_eq_getElem?_getD, List.getElem?_eq_getElem hi] at a
    simp only [Option.getD_some] at a
    exact (by omega : (L[i]).1.toNat < m))
  simpa using h2
where
  full_le {l : List Nat} {m : Nat} (h : l.Nodup) (hm : ∀ x ∈ l, x < m) : l.length ≤ m := by
    have hp : ((List.range m).filter fun i => decide (i ∈ l)).Perm l := (List.perm_ext_iff_of_nodup (List.nodup_range.filter _) h).2 fun i => by
      simp only [List.mem_filter, List.mem_range, decide_eq_true_eq]
      exact ⟨fun h => h.2, fun h => ⟨hm i h, h⟩⟩
    have := hp.length_eq
    have h2 := List.length_filter_le (fun i => decide (i ∈ l)) (List.range m)
    simp at h2
    omega

/-! ### The powers, and the rows that come in -/
theorem rw_nil (m : Nat) : RwOk m [] := ⟨fun i hi => by simp at hi⟩
end Go.Proofs.Ytifkgmbghcmdeaa
/-
  Inverses in the field of 55441 elements. No condition.
-/
namespace Go.Proofs.Ytifkgmbghcmdeaa
open Go Go.RowKit
theorem inv_all (q : Int) (h : 1 ≤ q ∧ q ≤ 55440) : q * pwF q 55439 % 55441 = 1 := by
  obtain ⟨a, rfl⟩ : ∃ a : Nat, q = a := ⟨q.toNat, by omega⟩
  have hf := fermat (a := a) (by omega)
  have e1 : (55439 : Int).toNat.succ = 55440 := by decide
  unfold pwF
  rw [mulmod', Int.mul_comm, ← Int.pow_succ, e1]
  generalize 55440 = n at hf ⊢
  rw [← Int.natCast_pow]
  omega
end Go.Proofs.Ytifkgmbghcmdeaa
/-
  Values of parametrisations: the walks. No condition but bounds.
-/
namespace Go.Proofs.Ytifkgmbghcmdeaa
open Go Go.RowKit
attribute [local irreducible] AWp AOps ResIs Ret1 QOp LOp COp AFnV AFn Imms LeE LeO
set_option maxHeartbeats 1000000
set_option linter.unusedSimpArgs false
set_option linter.unusedVariables false

/-- Rows in order with different numbers. -/
structure RwI (m : Nat) (L : Rws) : Prop where
  ok : RwOk m L
  nd : RwNd L
theorem RwI.len {m : Nat} {L : Rws} (h : RwI m L) : L.length ≤ m := rw_len h.ok h.nd
theorem RwI.add {m : Nat} {L : Rws} (h : RwI m L) {row : List Int} (hl : row.length = m) (hr : inF row) : RwI m (addR L row) := ⟨rw_add h.ok hl hr inv_all, nd_add h.ok h.nd hl hr⟩
end Go.Proofs.Ytifkgmbghcmdeaa
/-
  Echelon forms of rows: their spans and first places. No condition.
-/
namespace Go.Proofs.Ytifkgmbghcmdeaa
open Go Go.RowKit

def vec (row : List Int) (i : Nat) : Int := geti row (i : Nat)
def toRw (t : Int × List Int) : Rw := (t.1.toNat, vec t.2)
/-- The vectors of rows. -/
def GR (L : Rws) : (Nat → Int) → Prop := GL (L.map toRw)
theorem echV_of {m : Nat} {L : Rws} (h : RwI m L) : EchV m (L.map toRw) := by
  have key : ∀ t ∈ L, t.2.length = m ∧ inF t.2 ∧ 0 ≤ t.1 ∧ t.1 < m ∧ geti t.2 t.1 = 1 ∧ ∀ k : Nat, (k : Int) < t.1 → geti t.2 (k : Nat) = 0 := fun t ht => by
    obtain ⟨i, hi, rfl⟩ := List.getElem_of_mem ht
    have a := h.ok.at_ i hi
    unfold rwAt at a
    rw [List.getD_eq_getElem?_getD, List.getElem?_eq_getElem hi] at a
    exact a
  refine ⟨fun t ht => ?_, fun t ht => ?_, fun t ht i hi => ?_, ?_⟩
  · obtain ⟨s, hs, rfl⟩ := List.mem_map.1 ht
    have := key s hs
    simp only [toRw]; omega
  · obtain ⟨s, hs, rfl⟩ := List.mem_map.1 ht
    have a := key s hs
    simp only [toRw, vec]
    rw [show ((s.1.toNat : Nat) : Int) = s.1 by omega, a.2.2.2.2.1]; rfl
  · obtain ⟨s, hs, rfl⟩ := List.mem_map.1 ht
    have a := key s hs
    simp only [toRw, vec] at hi ⊢
    rw [a.2.2.2.2.2 i (by omega)]; rfl
  · rw [List.pairwise_map]
    refine List.Pairwise.imp_of_mem (fun {x y} hx hy hxy => ?_) h.nd
    have a := key x hx
    have b := key y hy
    simp only [toRw]; omega
/-- Two families have one span. -/
structure SpanEq (m : Nat) (G H : (Nat → Int) → Prop) : Prop where
  l : ∀ g, G g → Sp m H g
  r : ∀ g, H g → Sp m G g
theorem SpanEq.trans {m : Nat} {G H K : (Nat → Int) → Prop} (a : SpanEq m G H) (b : SpanEq m H K) : SpanEq m G K :=
  ⟨fun g hg => (a.l g hg).trans b.l, fun g hg => (b.r g hg).trans a.r⟩
theorem SpanEq.leads {m : Nat} {G H : (Nat → Int) → Prop} (a : SpanEq m G H) (p : Nat) : Leads m G p ↔ Leads m H p := ⟨leads_mono a.l, leads_mono a.r⟩
theorem SpanEq.or {m : Nat} {G H : (Nat → Int) → Prop} (a : SpanEq m G H) (r : Nat → Int) : SpanEq m (fun g => G g ∨ g = r) (fun g => H g ∨ g = r) :=
  ⟨fun g hg => by
    rcases hg with hg | hg
    · exact (a.l g hg).mono fun _ h => .inl h
    · exact .gen (.inr hg), fun g hg => by
    rcases hg with hg | hg
    · exact (a.r g hg).mono fun _ h => .inl h
    · exact .gen (.inr hg)⟩
/-- What a reduced row is. -/
theorem red_span {m : Nat} {L : Rws} (hL : RwI m L) (row : List Int) : ∀ (n p : Nat) (r : List Int), RdI m p r → p + n = m → (∃ q, Sp m (GR L) q ∧ ∀ i, i < m → vec r i % 55441 = (vec row i + q i) % 55441) →
    match redR L n r p with
    | none => Sp m (GR L) (vec row)
    | some t => ∃ q s s', Sp m (GR L) q ∧ (∀ i, i < m → vec t.2 i % 55441 = s * (vec row i + q i) % 55441) ∧ s * s' % 55441 = 1
  | 0, p, r, h, hp, ⟨q, hq, e⟩ => by
    rw [redR]
    refine (hq.smul (-1)).congr fun i hi => ?_
    have h1 := e i hi
    have h2 : vec r i = 0 := h.zero i (by omega)
    rw [h2] at h1
    omega
  | n + 1, p, r, h, hp, ⟨q, hq, e⟩ => by
    have hl := h.len
    rw [redR]
    by_cases hz : geti r (p : Nat) = 0
    · rw [if_pos hz]
      exact red_span hL row n (p + 1) r (h.next hz) (by omega) ⟨q, hq, e⟩
    · rw [if_neg hz]
      have hin := h.inf (p : Nat)
      cases hf : fndR L (p : Nat) with
      | none =>
        simp only
        refine ⟨q, pwF (geti r (p : Nat)) 55439, geti r (p : Nat), hq, fun i hi => ?_, by rw [Int.mul_comm]; exact inv_all _ (by omega)⟩
        have e1 : vec (updR r (sclG r (pwF (geti r (p : Nat)) 55439)) p r.length) i % 55441 = vec r i * pwF (geti r (p : Nat)) 55439 % 55441 := by
          unfold vec
          rw [geti_upd (by omega)]
          by_cases h2 : p ≤ i
          · rw [if_pos (by omega)]; unfold sclG; rw [Int.emod_emod_of_dvd _ (Int.dvd_refl _)]
          · rw [if_neg (by omega), h.zero i (by omega), Int.zero_mul]
        rw [e1, Int.mul_comm, ← emul, e i hi, emul]
      | some k =>
        simp only
        obtain ⟨hk, ek⟩ := fnd_at hf
        obtain ⟨a1, a2, a3, a4, a5, a6⟩ := hL.ok.at_ k hk
        refine red_span hL row n (p + 1) _ (h.red hL.ok hf (by omega)) (by omega) ⟨fun i => q i + (55441 - geti r (p : Nat)) * vec (rwAt L k) i, hq.comb _ (.gen ⟨toRw (L.getD k (0, [])), ?_, rfl⟩), fun i hi => ?_⟩
        · refine List.mem_map.2 ⟨L.getD k (0, []), ?_, rfl⟩
          rw [List.getD_eq_getElem?_getD, List.getElem?_eq_getElem hk]
          exact List.getElem_mem hk
        · have e1 : vec (updR r (adrG r (55441 - geti r (p : Nat)) (rwAt L k)) p r.length) i % 55441 = (vec r i + (55441 - geti r (p : Nat)) * vec (rwAt L k) i) % 55441 := by
            unfold vec
            rw [geti_upd (by omega)]
            by_cases h2 : p ≤ i
            · rw [if_pos (by omega)]; unfold adrG; rw [Int.emod_emod_of_dvd _ (Int.dvd_refl _)]
            · rw [if_neg (by omega), h.zero i (by omega), a6 i (by omega), Int.mul_zero]; rfl
          rw [e1, Int.add_emod, e i hi, ← Int.add_emod, Int.add_assoc]
theorem add_span {m : Nat} {L : Rws} (hL : RwI m L) {row : List Int} (hl : row.length = m) (hr : inF row) : SpanEq m (GR (addR L row)) (fun g => GR L g ∨ g = vec row) := by
  have h := red_span hL row m 0 row ⟨hl, hr, fun k hk => by omega⟩ (by omega) ⟨fun _ => 0, .zero fun _ _ => rfl, fun i _ => by simp⟩
  unfold addR
  rw [hl]
  cases hx : redR L m row 0 with
  | none =>
    rw [hx] at h
    simp only at h ⊢
    exact ⟨fun g hg => .gen (.inl hg), fun g hg => by
      rcases hg with hg | rfl
      · exact .gen hg
      · exact h⟩
  | some t =>
    rw [hx] at h
    simp only at h ⊢
    obtain ⟨q, s, s', h1, h2, h3⟩ := h
    have := gl_snoc (L := L.map toRw) (p := t.1.toNat) (r := vec t.2) (row := vec row) (n := m) h1 h2 h3
    have e : (L ++ [t]).map toRw = L.map toRw ++ [(t.1.toNat, vec t.2)] := by simp [toRw]
    unfold GR
    rw [e]
    exact ⟨this.1, this.2⟩
theorem fnd_leads {m : Nat} {L : Rws} (h : RwI m L) (p : Nat) : (fndR L (p : Nat)).isSome = true ↔ Leads m (GR L) p := by
  unfold GR
  rw [ech_leads (echV_of h) p]
  constructor
  · intro hs
    obtain ⟨k, hk⟩ := Option.isSome_iff_exists.1 hs
    obtain ⟨h1, h2⟩ := fnd_at hk
    refine ⟨toRw (L.getD k (0, [])), List.mem_map.2 ⟨_, ?_, rfl⟩, by simp only [toRw, h2]; omega⟩
    rw [List.getD_eq_getElem?_getD, List.getElem?_eq_getElem h1]
    exact List.getElem_mem h1
  · rintro ⟨t, ht, e⟩
    obtain ⟨s, hs, rfl⟩ := List.mem_map.1 ht
    unfold fndR
    rw [List.findIdx?_isSome, List.any_eq_true]
    refine ⟨s, hs, decide_eq_true ?_⟩
    obtain ⟨i, hi, rfl⟩ := List.getElem_of_mem hs
    have a := h.ok.at_ i hi
    unfold rwAt at a
    rw [List.getD_eq_getElem?_getD, List.getElem?_eq_getElem hi] at a
    simp only [Option.getD_some] at a
    simp only [toRw] at e
    omega
end Go.Proofs.Ytifkgmbghcmdeaa
/-
  Contracts of the laws' own helpers over lists of lists. No condition but a bound on the sizes.
-/
namespace Go.Proofs.Ytifkgmbghcmdeaa
open Go Go.RowKit
attribute [local irreducible] AWp AOps ResIs Ret1 QOp LOp COp AFnV AFn Imms LeE LeO
set_option maxHeartbeats 1000000
set_option linter.unusedSimpArgs false
set_option linter.unusedVariables false

def szR : List (List Int) → Int → Int
  | [], l => l
  | xs :: r, l => if szI xs l < 0 then -1 else szR r (szI xs l)
def szSS (xss : List (List Int)) (left : Int) : Int := if left - xss.length < 0 then -1 else szR xss (left - xss.length)

theorem szR_ok : ∀ (xss : List (List Int)) (l : Int), 0 ≤ szR xss l → 0 ≤ l → szR xss l ≤ l ∧ ∀ xs ∈ xss, (xs.length : Int) ≤ l
  | [], l, _, _ => ⟨Int.le_refl _, by simp⟩
  | xs :: r, l, h, h0 => by
    simp only [szR] at h ⊢
    by_cases e : szI xs l < 0
    · rw [if_pos e] at h; omega
    · rw [if_neg e] at h ⊢
      have ih := szR_ok r (szI xs l) h (by omega)
      have hx : szI xs l = l - xs.length := by unfold szI at e ⊢; split <;> simp_all
      refine ⟨by omega, fun ys hy => ?_⟩
      rcases List.mem_cons.1 hy with rfl | hy
      · omega
      · have := ih.2 ys hy; omega
theorem szSS_ok {xss : List (List Int)} {left : Int} (h : 0 ≤ szSS xss left) (h0 : 0 ≤ left) : (xss.length : Int) ≤ left ∧ ∀ xs ∈ xss, (xs.length : Int) ≤ left := by
  unfold szSS at h
  split at h
  · omega
  · have := szR_ok xss _ h (by omega)
    exact ⟨by omega, fun xs hx => by have := this.2 xs hx; omega⟩

theorem drop_gets {xss : List (List Int)} {i : Nat} (h : i < xss.length) : xss.drop i = gets xss i :: xss.drop (i + 1) := by
  rw [List.drop_eq_getElem_cons h]; simp [gets, h]

theorem szInt64SS_c (xss : List (List Int)) (left : Int) (h0 : -1 ≤ left) (h1 : left ≤ 1048576) : AFnV Try.prog 56 [.intss xss, .i left] (.int .i64 (szSS xss left)) := by
  (refine AFnV.start Try.func56 Try.ntmps56 rfl (by kernel_rfl) fun hk0 => ?_; simp only [Env.start, enumF, List.length_cons, List.length_nil, Nat.reduceAdd, Nat.reduceSub, List.cons_append, List.nil_append])
  obtain ⟨hk, hl⟩ : ArgOk (.intss xss) := hk0 _ (by simp)
  repeat' (first | (apply AOps.nil; try simp only [List.nil_append, List.cons_append, List.set_cons_zero, List.set_cons_succ, List.length_cons, List.length_nil, Nat.reduceAdd, AV.sh, AV.sh1, AV.sh0, AO.sh, List.map_cons, List.map_nil, Nat.zero_add, Nat.add_zero, setAll]) | (apply w_move; exact rfl; exact rfl) | (apply w_assign; exact rfl; exact rfl) | apply AWp.seq | apply AWp.region | ((apply AWp.condP; exact rfl) <;> intro h) | apply AWp.block | apply AWp.ret | apply AWp.skip | (apply w_len; exact rfl; exact rfl; first | exact .ints _ | exact .intss _ | exact .sli rfl | exact .sls rfl | exact .slr rfl | exact .orow rfl | exact .nil) | ((first | apply w_lss | apply w_sub); iterate 3 exact rfl) | (apply inI_of <;> omega))
  · exact .int Try.results56 rfl (by simp [szSS, h])
  refine AWp.loop (ι := Nat × Int) (fun s => ⟨27, [(0, .intss xss), (1, .i s.2), (5, .i s.1)]⟩) (fun _ => []) (fun s => s.1 ≤ xss.length ∧ 0 ≤ s.2 ∧ s.2 ≤ 1048576 ∧ szR (xss.drop s.1) s.2 = szSS xss left) (fun s => xss.length - s.1) (0, left - xss.length) ⟨by simp, by simp only; omega, by simp only; omega, by simp [szSS, h]⟩ ⟨lee rfl (by (repeat (first | exact le_nil | refine le_eq rfl rfl ?_))), by (repeat (exact lo_nil)), rfl, rfl⟩ ?_
  rintro ⟨i, l⟩ ⟨a0, a1, a2, a3⟩
  simp only at a0 a1 a2 a3
  repeat' (first | (apply AOps.nil; try simp only [List.nil_append, List.cons_append, List.set_cons_zero, List.set_cons_succ, List.length_cons, List.length_nil, Nat.reduceAdd, AV.sh, AV.sh1, AV.sh0, AO.sh, List.map_cons, List.map_nil, Nat.zero_add, Nat.add_zero, setAll]) | (apply w_move; exact rfl; exact rfl) | (apply w_assign; exact rfl; exact rfl) | apply AWp.seq | apply AWp.region | ((apply AWp.condP; exact rfl) <;> intro h) | apply AWp.block | apply AWp.ret | apply AWp.exit | apply AWp.skip | (apply w_len; exact rfl; exact rfl; first | exact .ints _ | exact .intss _ | exact .sli rfl | exact .sls rfl | exact .slr rfl | exact .orow rfl | exact .nil) | (apply w_call (szInt64S_c _ _ (show -1 ≤ l by omega) a2); exact rfl; exact rfl; focus ((repeat (first | exact im_nil | refine im_cons rfl (.val _) ?_ | refine im_cons rfl (.ints _) ?_)); done)) | ((first | apply w_lss | apply w_add | apply w_idx | apply w_ld); iterate 3 exact rfl) | ((first | apply w_idxs | apply w_lds); iterate 3 exact rfl) | (apply inI_of <;> omega) | omega)
  · rw [drop_gets (by omega)] at a3
    exact .int Try.results56 rfl (by rw [← a3]; simp [szR, h])
  · rw [drop_gets (by omega)] at a3
    have e1 : szI (gets xss i) l = l - (gets xss i).length := by unfold szI at h ⊢; split <;> simp_all
    exact ⟨(i + 1, szI (gets xss i) l), ⟨by simp only; omega, by simp only; omega, by simp only; omega, by simp only; rw [← a3]; simp [szR, h]⟩, by simp only; omega, ⟨lee rfl (by (repeat (first | exact le_nil | refine le_eq rfl rfl ?_))), by (repeat (exact lo_nil)), rfl, rfl⟩⟩
  · have e : i = xss.length := by omega
    subst e
    exact .int Try.results56 rfl (by rw [← a3]; simp [szR])

theorem take_set_snocs (xs : List (List Int)) (i : Nat) (h : i < xs.length) : (xs.take i ++ List.replicate (xs.length - i) []).set i (gets xs i) = xs.take (i + 1) ++ List.replicate (xs.length - (i + 1)) [] := by
  rw [List.set_append_right _ _ (by simp; omega), List.length_take, Nat.min_eq_left (by omega), Nat.sub_self, show xs.length - i = (xs.length - (i + 1)) + 1 by omega, List.replicate_succ, List.set_cons_zero, List.take_succ_eq_append_getElem h, show gets xs i = xs[i] by simp [gets, h]]
  simp only [List.append_assoc, List.cons_append, List.nil_append]

/-- The new slice of rows that a function hands back alone. -/
def IsIntss (e e2 : TypeId) (xss : List (List Int)) (r : AV) (os : List AO) : Prop := r = .own 0 ∧ os = [.sls e e2 xss]

theorem toInt64SS_c (xss : List (List Int)) (hb : xss.length ≤ 1048576) (hr : ∀ xs ∈ xss, xs.length ≤ 1048576) : AFn Try.prog 58 [.intss xss] (IsIntss 22 2 xss) := by
  (refine AFn.start Try.func58 Try.ntmps58 rfl (by kernel_rfl) fun hk => ?_; simp only [Env.start, enumF, List.length_cons, List.length_nil, Nat.reduceAdd, Nat.reduceSub, List.cons_append, List.nil_append])
  repeat' (first | (apply AOps.nil; try simp only [List.nil_append, List.cons_append, List.set_cons_zero, List.set_cons_succ, List.length_cons, List.length_nil, Nat.reduceAdd, AV.sh, AV.sh1, AV.sh0, AO.sh, List.map_cons, List.map_nil, Nat.zero_add, Nat.add_zero, setAll]) | (apply w_move; exact rfl; exact rfl) | (apply w_assign; exact rfl; exact rfl) | apply AWp.seq | apply AWp.region | apply AWp.block | (apply w_len; exact rfl; exact rfl; first | exact .ints _ | exact .intss _ | exact .sli rfl | exact .sls rfl | exact .slr rfl | exact .orow rfl | exact .nil) | (apply w_mkr; exact rfl; exact rfl; rotate_left 3; exact rfl; rotate_left 1) | omega)
  refine AWp.loop (ι := Nat) (fun i => ⟨23, [(0, .intss xss), (3, .own 0), (4, .i i)]⟩) (fun i => [.sls 22 2 (xss.take i ++ List.replicate (xss.length - i) [])]) (fun i => i ≤ xss.length) (fun i => xss.length - i) 0 (by omega) ⟨lee rfl (by (repeat (first | exact le_nil | refine le_eq rfl rfl ?_))), lo_eq (by simp) lo_nil, rfl, rfl⟩ ?_
  rintro i h0
  have e1 : (xss.take i ++ List.replicate (xss.length - i) []).length = xss.length := by simp; omega
  have hb2 : (gets xss i).length ≤ 1048576 := by
    by_cases hi : i < xss.length
    · exact hr _ (gets_mem (by omega) (by omega))
    · simp [gets, List.getElem?_eq_none (show xss.length ≤ i by omega)]
  repeat' (first | (apply AOps.nil; try simp only [List.nil_append, List.cons_append, List.set_cons_zero, List.set_cons_succ, List.length_cons, List.length_nil, Nat.reduceAdd, AV.sh, AV.sh1, AV.sh0, AO.sh, List.map_cons, List.map_nil, Nat.zero_add, Nat.add_zero, setAll]) | (apply w_move; exact rfl; exact rfl) | (apply w_assign; exact rfl; exact rfl) | apply AWp.seq | apply AWp.region | ((apply AWp.condP; exact rfl) <;> intro h) | apply AWp.block | apply AWp.ret | apply AWp.exit | apply AWp.skip | (apply w_len; exact rfl; exact rfl; first | exact .ints _ | exact .intss _ | exact .sli rfl | exact .sls rfl | exact .slr rfl | exact .orow rfl | exact .nil) | (apply w_callm (toInt64S_c _ hb2); (focus ((repeat (first | exact im_nil | refine im_cons rfl (.ints _) ?_)); done)); rintro r os0 ⟨rfl, rfl⟩; try simp only [List.nil_append, List.cons_append, List.set_cons_zero, List.set_cons_succ, List.length_cons, List.length_nil, Nat.reduceAdd, AV.sh, AV.sh1, AV.sh0, AO.sh, List.map_cons, List.map_nil, Nat.zero_add, Nat.add_zero, setAll]) | ((first | apply w_lss | apply w_add | apply w_idx | apply w_ld); iterate 3 exact rfl) | ((first | apply w_idxs | apply w_lds); iterate 3 exact rfl) | (apply w_idxo; exact rfl; exact rfl; (exact .sls rfl); exact rfl) | (apply w_strow; exact rfl; exact rfl; rotate_left 1; exact rfl; exact rfl; exact rfl; exact rfl; simp only [Env.mp, List.map_cons, List.map_nil, List.set_cons_zero, List.set_cons_succ, AV.kill, AV.kill1, AO.kill, AV.noRow, AV.noRow1, AO.via, reduceIte, Nat.reduceEqDiff, Nat.reduceLT, Env.up, Nat.zero_ne_one, Nat.one_ne_zero, Nat.reduceAdd, List.cons_append, List.nil_append]; rotate_left 1) | (apply inI_of <;> omega) | omega)
  · have e2 := take_set_snocs xss i (by omega)
    have e3 : (xss.take i ++ List.replicate (xss.length - i) []).set ((i : Int)).toNat (gets xss i) = xss.take (i + 1) ++ List.replicate (xss.length - (i + 1)) [] := e2
    exact ⟨i + 1, by omega, by omega, ⟨lee rfl (by (repeat (first | exact le_nil | refine le_eq rfl rfl ?_))), by (repeat (first | exact lo_nil | refine lo_eq (congrArg (AO.sls _ _) (e3)) ?_)), rfl, rfl⟩⟩
  · have e : i = xss.length := by omega
    subst e
    exact ⟨_, _, _, .v1 Try.results58 rfl, .sls rfl, rfl, by simp⟩

theorem eqInt64SS_c (xss yss : List (List Int)) : AFnV Try.prog 61 [.intss xss, .intss yss] (.bool (decide (xss = yss))) := by
  (refine AFnV.start Try.func61 Try.ntmps61 rfl (by kernel_rfl) fun hk0 => ?_; simp only [Env.start, enumF, List.length_cons, List.length_nil, Nat.reduceAdd, Nat.reduceSub, List.cons_append, List.nil_append])
  obtain ⟨hk, hl⟩ : ArgOk (.intss xss) := hk0 _ (by simp)
  repeat' (first | (apply AOps.nil; try simp only [List.nil_append, List.cons_append, List.set_cons_zero, List.set_cons_succ, List.length_cons, List.length_nil, Nat.reduceAdd, AV.sh, AV.sh1, AV.sh0, AO.sh, List.map_cons, List.map_nil, Nat.zero_add, Nat.add_zero, setAll]) | (apply w_move; exact rfl; exact rfl) | (apply w_assign; exact rfl; exact rfl) | apply AWp.seq | apply AWp.region | ((apply AWp.condP; exact rfl) <;> intro h) | apply AWp.block | apply AWp.ret | apply AWp.skip | (apply w_len; exact rfl; exact rfl; first | exact .ints _ | exact .intss _ | exact .sli rfl | exact .sls rfl | exact .slr rfl | exact .orow rfl | exact .nil) | ((apply w_neq); iterate 3 exact rfl))
  · exact .bool Try.results61 rfl (by simp; intro e; subst e; simp at h)
  refine AWp.loop (ι := Nat) (fun i => ⟨27, [(0, .intss xss), (1, .intss yss), (5, .i i)]⟩) (fun _ => []) (fun i => i ≤ xss.length ∧ xss.take i = yss.take i) (fun i => xss.length - i) 0 ⟨by omega, by simp⟩ ⟨lee rfl (by (repeat (first | exact le_nil | refine le_eq rfl rfl ?_))), by (repeat (exact lo_nil)), rfl, rfl⟩ ?_
  rintro i ⟨h0, h1⟩
  have hlen : xss.length = yss.length := by omega
  repeat' (first | (apply AOps.nil; try simp only [List.nil_append, List.cons_append, List.set_cons_zero, List.set_cons_succ, List.length_cons, List.length_nil, Nat.reduceAdd, AV.sh, AV.sh1, AV.sh0, AO.sh, List.map_cons, List.map_nil, Nat.zero_add, Nat.add_zero, setAll]) | (apply w_move; exact rfl; exact rfl) | (apply w_assign; exact rfl; exact rfl) | apply AWp.seq | apply AWp.region | ((apply AWp.condP; exact rfl) <;> intro h) | ((apply AWp.condN; exact rfl) <;> intro h) | apply AWp.block | apply AWp.ret | apply AWp.exit | apply AWp.skip | (apply AWp.regionQ; kernel_rfl; kernel_rfl) | (apply w_len; exact rfl; exact rfl; first | exact .ints _ | exact .intss _ | exact .sli rfl | exact .sls rfl | exact .slr rfl | exact .orow rfl | exact .nil) | (apply w_call (eqInt64S_c _ _); exact rfl; exact rfl; focus ((repeat (first | exact im_nil | refine im_cons rfl (.ints _) ?_)); done)) | ((first | apply w_lss | apply w_add | apply w_idx | apply w_ld); iterate 3 exact rfl) | ((first | apply w_idxs | apply w_lds); iterate 3 exact rfl) | ((apply w_not); iterate 2 exact rfl) | (apply inI_of <;> omega) | omega)
  · refine .bool Try.results61 rfl ?_
    have : ¬ xss = yss := fun e => h (by rw [e])
    simp [this]
  · refine ⟨i + 1, ⟨by omega, ?_⟩, by omega, ⟨lee rfl (by (repeat (first | exact le_nil | refine le_eq rfl rfl ?_))), by (repeat (exact lo_nil)), rfl, rfl⟩⟩
    have a1 : i < xss.length := by omega
    have a2 : i < yss.length := by omega
    have a3 : xss[i] = yss[i] := by simpa [gets, a1, a2] using h
    rw [List.take_succ_eq_append_getElem a1, List.take_succ_eq_append_getElem a2, h1, a3]
  · have e : i = xss.length := by omega
    subst e
    rw [List.take_length, hlen, List.take_length] at h1
    exact .bool Try.results61 rfl (by simp [h1])

end Go.Proofs.Ytifkgmbghcmdeaa
/-
  Supports: whether a list is one, and its values. No condition.
-/
namespace Go.Proofs.Ytifkgmbghcmdeaa
open Go Go.RowKit
attribute [local irreducible] AWp AOps ResIs Ret1 QOp LOp COp AFnV AFn Imms LeE LeO
set_option maxHeartbeats 1000000
set_option linter.unusedSimpArgs false
set_option linter.unusedVariables false

/-- The i-th row of a support. -/
def SR (xss : List (List Int)) (i : Nat) : Prop :=
  (gets xss i).length = 2 ∧ (0 ≤ geti (gets xss i) 0 ∧ geti (gets xss i) 0 ≤ 60) ∧ (0 ≤ geti (gets xss i) 1 ∧ geti (gets xss i) 1 ≤ 60)
def IsSup (xss : List (List Int)) : Prop := (1 ≤ xss.length ∧ xss.length ≤ 200) ∧ ∀ j, j < xss.length → SR xss j
noncomputable instance (xss : List (List Int)) : Decidable (IsSup xss) := Classical.propDecidable _
theorem within2 {xs : List Int} {a b : Int} (hl : xs.length = 2) : withinL xs a b = decide ((a ≤ geti xs 0 ∧ geti xs 0 ≤ b) ∧ (a ≤ geti xs 1 ∧ geti xs 1 ≤ b)) := by
  match xs, hl with
  | [x, y], _ => simp [withinL, geti]

/-! ### Values -/
end Go.Proofs.Ytifkgmbghcmdeaa
/-
  Polynomials: the laws' helpers, whether a value is one, and its order. No condition.
-/
namespace Go.Proofs.Ytifkgmbghcmdeaa
open Go Go.RowKit
attribute [local irreducible] AWp AOps ResIs Ret1 QOp LOp COp AFnV AFn Imms LeE LeO
set_option maxHeartbeats 1000000
set_option linter.unusedSimpArgs false
set_option linter.unusedVariables false

theorem szR_cases : ∀ (xss : List (List Int)) (l : Int), 0 ≤ l → szR xss l = -1 ∨ 0 ≤ szR xss l
  | [], l, h => .inr h
  | xs :: r, l, h => by
    simp only [szR]
    by_cases e : szI xs l < 0
    · rw [if_pos e]; exact .inl rfl
    · rw [if_neg e]; exact szR_cases r _ (by omega)
theorem szSS_cases (xss : List (List Int)) (left : Int) : szSS xss left = -1 ∨ 0 ≤ szSS xss left := by
  unfold szSS
  split
  · exact .inl rfl
  · exact szR_cases _ _ (by omega)

theorem szPoly_c (xss : List (List Int)) (left : Int) (h0 : -1 ≤ left) (h1 : left ≤ 1048576) : AFnV Try.prog 26 [.agg [.intss xss], .i left] (.int .i64 (szSS xss left)) := by
  (refine AFnV.start Try.func26 Try.ntmps26 rfl (by kernel_rfl) fun hk => ?_; simp only [Env.start, enumF, List.length_cons, List.length_nil, Nat.reduceAdd, Nat.reduceSub, List.cons_append, List.nil_append])
  repeat' (first | (apply AOps.nil; try simp only [List.nil_append, List.cons_append, List.set_cons_zero, List.set_cons_succ, List.length_cons, List.length_nil, Nat.reduceAdd, AV.sh, AV.sh1, AV.sh0, AO.sh, List.map_cons, List.map_nil, Nat.zero_add, Nat.add_zero, setAll]) | (apply w_move; exact rfl; exact rfl) | (apply w_assign; exact rfl; exact rfl) | apply AWp.seq | apply AWp.region | ((apply AWp.condP; exact rfl) <;> intro h) | apply AWp.ret | apply AWp.skip | (apply w_call (szInt64SS_c _ _ h0 h1); exact rfl; exact rfl; focus ((repeat (first | exact im_nil | refine im_cons rfl (.val _) ?_ | refine im_cons rfl (.intss _) ?_)); done)) | ((first | apply w_lss | apply w_ld | apply w_fa); iterate 3 exact rfl) | ((apply w_boxa); iterate 2 exact rfl) | (apply w_ldb; iterate 5 exact rfl))
  · refine .int Try.results26 rfl ?_
    have e : szSS xss left = -1 ∨ 0 ≤ szSS xss left := szSS_cases xss left
    omega
  · exact .int Try.results26 rfl rfl

/-- A new polynomial. -/
def IsPol (xss : List (List Int)) (r : AV) (os : List AO) : Prop := r = .agg [.own 0] ∧ os = [.sls 22 2 xss]

theorem toPoly_c (xss : List (List Int)) (hb : xss.length ≤ 1048576) (hr : ∀ xs ∈ xss, xs.length ≤ 1048576) : AFn Try.prog 28 [.agg [.intss xss]] (IsPol xss) := by
  (refine AFn.start Try.func28 Try.ntmps28 rfl (by kernel_rfl) fun hk => ?_; simp only [Env.start, enumF, List.length_cons, List.length_nil, Nat.reduceAdd, Nat.reduceSub, List.cons_append, List.nil_append])
  repeat' (first | (apply AOps.nil; try simp only [List.nil_append, List.cons_append, List.set_cons_zero, List.set_cons_succ, List.length_cons, List.length_nil, Nat.reduceAdd, AV.sh, AV.sh1, AV.sh0, AO.sh, List.map_cons, List.map_nil, Nat.zero_add, Nat.add_zero, setAll]) | apply AWp.seq | apply AWp.region | apply AWp.ret | (apply w_callm (toInt64SS_c _ hb hr); (focus ((repeat (first | exact im_nil | refine im_cons rfl (.intss _) ?_)); done)); rintro r os0 ⟨rfl, rfl⟩; try simp only [List.nil_append, List.cons_append, List.set_cons_zero, List.set_cons_succ, List.length_cons, List.length_nil, Nat.reduceAdd, AV.sh, AV.sh1, AV.sh0, AO.sh, List.map_cons, List.map_nil, Nat.zero_add, Nat.add_zero, setAll]) | ((first | apply w_ld | apply w_fa); iterate 3 exact rfl) | ((apply w_boxa); iterate 2 exact rfl) | (apply w_ldb; iterate 5 exact rfl) | (apply w_ldst; iterate 5 exact rfl) | (apply w_alst; iterate 2 exact rfl) | (apply w_stst; iterate 5 exact rfl) | (apply w_stbo; exact rfl; exact rfl; exact rfl; exact rfl; exact rfl; exact True.intro))
  exact ⟨_, _, _, .c1 Try.results28 rfl rfl rfl, .agg1 (.sls rfl), rfl, rfl⟩

theorem eqPoly_c (xss yss : List (List Int)) : AFnV Try.prog 30 [.agg [.intss xss], .agg [.intss yss]] (.bool (decide (xss = yss))) := by
  (refine AFnV.start Try.func30 Try.ntmps30 rfl (by kernel_rfl) fun hk => ?_; simp only [Env.start, enumF, List.length_cons, List.length_nil, Nat.reduceAdd, Nat.reduceSub, List.cons_append, List.nil_append])
  repeat' (first | (apply AOps.nil; try simp only [List.nil_append, List.cons_append, List.set_cons_zero, List.set_cons_succ, List.length_cons, List.length_nil, Nat.reduceAdd, AV.sh, AV.sh1, AV.sh0, AO.sh, List.map_cons, List.map_nil, Nat.zero_add, Nat.add_zero, setAll]) | (apply w_assign; exact rfl; exact rfl) | apply AWp.seq | apply AWp.region | ((apply AWp.condN; exact rfl) <;> intro h) | apply AWp.ret | apply AWp.skip | (apply w_call (eqInt64SS_c _ _); exact rfl; exact rfl; focus ((repeat (first | exact im_nil | refine im_cons rfl (.intss _) ?_)); done)) | ((first | apply w_ld | apply w_fa); iterate 3 exact rfl) | ((first | apply w_not | apply w_boxa); iterate 2 exact rfl) | (apply w_ldb; iterate 5 exact rfl))
  · exact .bool Try.results30 rfl (by simp_all)
  · exact .bool Try.results30 rfl (by simp_all)
theorem eqPoly_t (xss : List (List Int)) : AFnV Try.prog 30 [.agg [.intss xss], .agg [.intss xss]] (.bool true) := by
  have := eqPoly_c xss xss
  simpa using this

/-- The order of terms. -/
def Bef (x y : List Int) : Prop := geti x 0 + geti x 1 < geti y 0 + geti y 1 ∨ (geti x 0 + geti x 1 = geti y 0 + geti y 1 ∧ geti x 0 < geti y 0)

theorem l17Before_c (i j a b : Int) (hi : 0 ≤ i ∧ i ≤ 60) (hj : 0 ≤ j ∧ j ≤ 60) (ha : 0 ≤ a ∧ a ≤ 60) (hb : 0 ≤ b ∧ b ≤ 60) :
    AFnV Try.prog 85 [.i i, .i j, .i a, .i b] (.bool (decide (i + j < a + b ∨ (i + j = a + b ∧ i < a)))) := by
  (refine AFnV.start Try.func85 Try.ntmps85 rfl (by kernel_rfl) fun hk => ?_; simp only [Env.start, enumF, List.length_cons, List.length_nil, Nat.reduceAdd, Nat.reduceSub, List.cons_append, List.nil_append])
  repeat' (first | (apply AOps.nil; try simp only [List.nil_append, List.cons_append, List.set_cons_zero, List.set_cons_succ, List.length_cons, List.length_nil, Nat.reduceAdd, AV.sh, AV.sh1, AV.sh0, AO.sh, List.map_cons, List.map_nil, Nat.zero_add, Nat.add_zero, setAll]) | (apply w_move; exact rfl; exact rfl) | (apply w_assign; exact rfl; exact rfl) | apply AWp.seq | apply AWp.region | ((apply AWp.condP; exact rfl) <;> intro h) | apply AWp.ret | apply AWp.skip | ((first | apply w_lss | apply w_neq | apply w_add); iterate 3 exact rfl) | (apply inI_of <;> omega))
  all_goals refine .bool Try.results85 rfl ?_
  all_goals rw [Bool.eq_iff_iff]
  all_goals simp
  all_goals omega

def cmpI (a b : Int) : Int := if a < b then -1 else if b < a then 1 else 0

theorem compared_c (a b : Int) : AFnV Try.prog 110 [.i a, .i b] (.int .i64 (cmpI a b)) := by
  (refine AFnV.start Try.func110 Try.ntmps110 rfl (by kernel_rfl) fun hk => ?_; simp only [Env.start, enumF, List.length_cons, List.length_nil, Nat.reduceAdd, Nat.reduceSub, List.cons_append, List.nil_append])
  repeat' (first | (apply AOps.nil; try simp only [List.nil_append, List.cons_append, List.set_cons_zero, List.set_cons_succ, List.length_cons, List.length_nil, Nat.reduceAdd, AV.sh, AV.sh1, AV.sh0, AO.sh, List.map_cons, List.map_nil, Nat.zero_add, Nat.add_zero, setAll]) | (apply w_move; exact rfl; exact rfl) | (apply w_assign; exact rfl; exact rfl) | apply AWp.seq | apply AWp.region | ((apply AWp.condP; exact rfl) <;> intro h) | apply AWp.block | apply AWp.ret | apply AWp.skip | ((first | apply w_lss | apply w_gtr); iterate 3 exact rfl))
  all_goals exact .int Try.results110 rfl (by unfold cmpI; split <;> (try split) <;> omega)

def cmpT (x y : List Int) : Int := if cmpI (geti x 0 + geti x 1) (geti y 0 + geti y 1) ≠ 0 then cmpI (geti x 0 + geti x 1) (geti y 0 + geti y 1) else cmpI (geti x 0) (geti y 0)
theorem cmpI_in (a b : Int) : -1 ≤ cmpI a b ∧ cmpI a b ≤ 1 := by unfold cmpI; split <;> (try split) <;> omega
theorem cmpT_bef (x y : List Int) : 0 ≤ cmpT x y ↔ ¬ Bef x y := by
  unfold cmpT Bef cmpI
  (repeat' split) <;> omega

theorem compareTerms_c (x y : List Int) (hx : x.length = 3) (hy : y.length = 3) (hx0 : 0 ≤ geti x 0 ∧ geti x 0 ≤ 60) (hx1 : 0 ≤ geti x 1 ∧ geti x 1 ≤ 60) (hy0 : 0 ≤ geti y 0 ∧ geti y 0 ≤ 60) (hy1 : 0 ≤ geti y 1 ∧ geti y 1 ≤ 60) :
    AFnV Try.prog 89 [.ints x, .ints y] (.int .i64 (cmpT x y)) := by
  have e1 := cmpI_in (geti x 0 + geti x 1) (geti y 0 + geti y 1)
  have e2 := cmpI_in (geti x 0) (geti y 0)
  (refine AFnV.start Try.func89 Try.ntmps89 rfl (by kernel_rfl) fun hk => ?_; simp only [Env.start, enumF, List.length_cons, List.length_nil, Nat.reduceAdd, Nat.reduceSub, List.cons_append, List.nil_append])
  repeat' (first | (apply AOps.nil; try simp only [List.nil_append, List.cons_append, List.set_cons_zero, List.set_cons_succ, List.length_cons, List.length_nil, Nat.reduceAdd, AV.sh, AV.sh1, AV.sh0, AO.sh, List.map_cons, List.map_nil, Nat.zero_add, Nat.add_zero, setAll]) | (apply w_move; exact rfl; exact rfl) | (apply w_assign; exact rfl; exact rfl) | apply AWp.seq | apply AWp.region | ((apply AWp.condP; exact rfl) <;> intro h) | apply AWp.ret | apply AWp.skip | (apply AWp.regionQ; kernel_rfl; kernel_rfl) | (apply w_call (compared_c _ _); exact rfl; exact rfl; focus ((repeat (first | exact im_nil | refine im_cons rfl (.val _) ?_)); done)) | ((first | apply w_neq | apply w_add | apply w_idx | apply w_ld); iterate 3 exact rfl) | (apply inI_of <;> omega) | omega)
  all_goals exact .int Try.results89 rfl (by unfold cmpT; split <;> (try omega) <;> (try rfl) <;> simp_all)

/-- The i-th term of a polynomial. -/
def PR (xss : List (List Int)) (i : Nat) : Prop :=
  (gets xss i).length = 3 ∧ (0 ≤ geti (gets xss i) 0 ∧ geti (gets xss i) 0 ≤ 60) ∧ (0 ≤ geti (gets xss i) 1 ∧ geti (gets xss i) 1 ≤ 60) ∧ (1 ≤ geti (gets xss i) 2 ∧ geti (gets xss i) 2 ≤ 55440) ∧
    (0 < i → Bef (gets xss ((i : Int) - 1)) (gets xss i))
def IsPo (xss : List (List Int)) : Prop := xss.length ≤ 200 ∧ ∀ j, j < xss.length → PR xss j
noncomputable instance (xss : List (List Int)) : Decidable (IsPo xss) := Classical.propDecidable _
noncomputable def isPo (xss : List (List Int)) : Bool := decide (IsPo xss)

theorem isPo_false {xss : List (List Int)} {i : Nat} (hi : i < xss.length) (h : ¬ PR xss i) : false = isPo xss := (decide_eq_false fun hz => h (hz.2 i hi)).symm
theorem isPo_long {xss : List (List Int)} (h : ¬ xss.length ≤ 200) : false = isPo xss := (decide_eq_false fun hz => h hz.1).symm
theorem isPo_all {xss : List (List Int)} (h : ∀ j, j < xss.length → PR xss j) : isPo xss = decide (xss.length ≤ 200) := by
  unfold isPo
  by_cases h2 : xss.length ≤ 200
  · rw [decide_eq_true ⟨h2, h⟩, decide_eq_true h2]
  · rw [decide_eq_false (fun hz => h2 hz.1), decide_eq_false h2]
theorem isPo_of {xss : List (List Int)} (h : isPo xss = true) : xss.length ≤ 200 ∧ ∀ j, j < xss.length → PR xss j := of_decide_eq_true (p := IsPo xss) h

theorem within3_c (xs : List Int) (hl : xs.length = 3) : AFnV Try.prog 80 [.ints (xs.take (Int.toNat 2)), .i 0, .i 60] (.bool (decide ((0 ≤ geti xs 0 ∧ geti xs 0 ≤ 60) ∧ (0 ≤ geti xs 1 ∧ geti xs 1 ≤ 60)))) := by
  have := within_c (xs.take (Int.toNat 2)) 0 60
  rw [within2 (by simp; omega)] at this
  have e0 : geti (xs.take (Int.toNat 2)) 0 = geti xs 0 := by match xs, hl with | [x, y, z], _ => rfl
  have e1 : geti (xs.take (Int.toNat 2)) 1 = geti xs 1 := by match xs, hl with | [x, y, z], _ => rfl
  rw [e0, e1] at this
  exact this

theorem l17Is_c (xss : List (List Int)) : AFnV Try.prog 47 [.agg [.intss xss]] (.bool (isPo xss)) := by
  (refine AFnV.start Try.func47 Try.ntmps47 rfl (by kernel_rfl) fun hk0 => ?_; simp only [Env.start, enumF, List.length_cons, List.length_nil, Nat.reduceAdd, Nat.reduceSub, List.cons_append, List.nil_append])
  have hk := hk0 _ (List.mem_cons_self ..)
  obtain ⟨hk, hl⟩ := hk (.intss xss) (by simp)
  repeat' (first | (apply AOps.nil; try simp only [List.nil_append, List.cons_append, List.set_cons_zero, List.set_cons_succ, List.length_cons, List.length_nil, Nat.reduceAdd, AV.sh, AV.sh1, AV.sh0, AO.sh, List.map_cons, List.map_nil, Nat.zero_add, Nat.add_zero, setAll]) | (apply w_assign; exact rfl; exact rfl) | apply AWp.seq | apply AWp.region | apply AWp.block | ((apply w_boxa); iterate 2 exact rfl))
  refine AWp.loop (ι := Nat) (fun i => ⟨73, [(0, .agg [.intss xss]), (1, .optr 0 0), (3, .i i)]⟩) (fun _ => [.bx 50 [.intss xss]]) (fun i => i ≤ xss.length ∧ ∀ j, j < i → PR xss j) (fun i => xss.length - i) 0 ⟨by omega, fun j hj => by omega⟩ ⟨lee rfl (by (repeat (first | exact le_nil | refine le_eq rfl rfl ?_))), by (repeat (first | exact lo_nil | refine lo_eq rfl ?_)), rfl, rfl⟩ ?_
  rintro i ⟨h0, h1⟩
  have hprev : 0 < i → (gets xss ((i : Int) - 1)).length = 3 ∧ (0 ≤ geti (gets xss ((i : Int) - 1)) 0 ∧ geti (gets xss ((i : Int) - 1)) 0 ≤ 60) ∧ (0 ≤ geti (gets xss ((i : Int) - 1)) 1 ∧ geti (gets xss ((i : Int) - 1)) 1 ≤ 60) := by
    intro h
    have := h1 (i - 1) (by omega)
    unfold PR at this
    rw [show ((i : Int) - 1) = ((i - 1 : Nat) : Int) by omega]
    exact ⟨this.1, this.2.1, this.2.2.1⟩
  by_cases hi0 : 0 < i
  · obtain ⟨p1, p2, p3⟩ := hprev hi0
    by_cases hz : (gets xss i).length = 3 ∧ (0 ≤ geti (gets xss i) 0 ∧ geti (gets xss i) 0 ≤ 60) ∧ (0 ≤ geti (gets xss i) 1 ∧ geti (gets xss i) 1 ≤ 60) ∧ (1 ≤ geti (gets xss i) 2 ∧ geti (gets xss i) 2 ≤ 55440)
    · have hz' := hz
      obtain ⟨z0, z1, z2, z3⟩ := hz'
      repeat' (first | (apply AOps.nil; try simp only [List.nil_append, List.cons_append, List.set_cons_zero, List.set_cons_succ, List.length_cons, List.length_nil, Nat.reduceAdd, AV.sh, AV.sh1, AV.sh0, AO.sh, List.map_cons, List.map_nil, Nat.zero_add, Nat.add_zero, setAll]) | ((apply AOps.splitP; exact rfl; exact rfl) <;> intro h) | ((apply AOps.splitN; exact rfl; exact rfl) <;> intro h) | (apply w_move; exact rfl; exact rfl) | (apply w_assign; exact rfl; exact rfl) | apply AWp.seq | apply AWp.region | ((apply AWp.condP; exact rfl) <;> intro h) | ((apply AWp.condN; exact rfl) <;> intro h) | (apply AWp.condT; exact rfl) | (apply AWp.condF; exact rfl) | apply AWp.block | apply AWp.ret | apply AWp.exit | apply AWp.skip | (apply AWp.regionQ; kernel_rfl; kernel_rfl) | (apply w_skip; exact rfl) | (apply w_pickT; exact rfl; exact rfl; exact rfl) | (apply w_pickF; exact rfl; exact rfl; exact rfl) | (apply w_len; exact rfl; exact rfl; first | exact .ints _ | exact .intss _ | exact .sli rfl | exact .sls rfl | exact .slr rfl | exact .orow rfl | exact .nil) | (apply w_call (l01In_c _ _ _); exact rfl; exact rfl; focus ((repeat (first | exact im_nil | refine im_cons rfl (.val _) ?_)); done)) | (apply w_call (l17Before_c _ _ _ _ p2 p3 z1 z2); exact rfl; exact rfl; focus ((repeat (first | exact im_nil | refine im_cons rfl (.val _) ?_)); done)) | ((first | apply w_lss | apply w_leq | apply w_gtr | apply w_neq | apply w_add | apply w_sub | apply w_idx | apply w_ld | apply w_fa); iterate 3 exact rfl) | ((first | apply w_idxs | apply w_lds); iterate 3 exact rfl) | ((apply w_not); iterate 2 exact rfl) | (apply w_ldb; iterate 5 exact rfl) | (apply inI_of <;> omega) | omega)
      all_goals first
        | exact .bool Try.results47 rfl (isPo_false (i := i) (by omega) (fun hz => by unfold PR Bef at hz; omega))
        | (refine ⟨i + 1, ⟨by omega, fun j hj => ?_⟩, by omega, ⟨lee rfl (by (repeat (first | exact le_nil | refine le_eq rfl rfl ?_))), by (repeat (first | exact lo_nil | refine lo_eq rfl ?_)), rfl, rfl⟩⟩
           by_cases e : j = i
           · subst e
             unfold PR Bef
             omega
           · exact h1 j (by omega))
        | (have e : i = xss.length := by omega
           subst e
           exact .bool Try.results47 rfl (by rw [isPo_all h1]; simp; try omega))
    · repeat' (first | (apply AOps.nil; try simp only [List.nil_append, List.cons_append, List.set_cons_zero, List.set_cons_succ, List.length_cons, List.length_nil, Nat.reduceAdd, AV.sh, AV.sh1, AV.sh0, AO.sh, List.map_cons, List.map_nil, Nat.zero_add, Nat.add_zero, setAll]) | ((apply AOps.splitP; exact rfl; exact rfl) <;> intro h) | ((apply AOps.splitN; exact rfl; exact rfl) <;> intro h) | (apply w_move; exact rfl; exact rfl) | (apply w_assign; exact rfl; exact rfl) | apply AWp.seq | apply AWp.region | ((apply AWp.condP; exact rfl) <;> intro h) | ((apply AWp.condN; exact rfl) <;> intro h) | (apply AWp.condT; exact rfl) | apply AWp.block | apply AWp.ret | apply AWp.exit | apply AWp.skip | (apply AWp.regionQ; kernel_rfl; kernel_rfl) | (apply w_skip; exact rfl) | (apply w_pickT; exact rfl; exact rfl; exact rfl) | (apply w_pickF; exact rfl; exact rfl; exact rfl) | (apply w_len; exact rfl; exact rfl; first | exact .ints _ | exact .intss _ | exact .sli rfl | exact .sls rfl | exact .slr rfl | exact .orow rfl | exact .nil) | (apply w_call (l01In_c _ _ _); exact rfl; exact rfl; focus ((repeat (first | exact im_nil | refine im_cons rfl (.val _) ?_)); done)) | omega | ((first | apply w_lss | apply w_leq | apply w_neq | apply w_idx | apply w_ld | apply w_fa); iterate 3 exact rfl) | ((first | apply w_idxs | apply w_lds); iterate 3 exact rfl) | ((apply w_not); iterate 2 exact rfl) | (apply w_ldb; iterate 5 exact rfl))
      all_goals first
        | exact .bool Try.results47 rfl (isPo_false (i := i) (by omega) (fun hz => by unfold PR Bef at hz; omega))
        | (have e : i = xss.length := by omega
           subst e
           exact .bool Try.results47 rfl (by rw [isPo_all h1]; simp; try omega))
  · obtain rfl : i = 0 := by omega
    simp only [Int.natCast_zero] at *
    repeat' (first | (apply AOps.nil; try simp only [List.nil_append, List.cons_append, List.set_cons_zero, List.set_cons_succ, List.length_cons, List.length_nil, Nat.reduceAdd, AV.sh, AV.sh1, AV.sh0, AO.sh, List.map_cons, List.map_nil, Nat.zero_add, Nat.add_zero, setAll]) | ((apply AOps.splitP; exact rfl; exact rfl) <;> intro h) | ((apply AOps.splitN; exact rfl; exact rfl) <;> intro h) | (apply w_move; exact rfl; exact rfl) | (apply w_assign; exact rfl; exact rfl) | apply AWp.seq | apply AWp.region | ((apply AWp.condP; exact rfl) <;> intro h) | ((apply AWp.condN; exact rfl) <;> intro h) | (apply AWp.condT; exact rfl) | (apply AWp.condF; exact rfl) | apply AWp.block | apply AWp.ret | apply AWp.exit | apply AWp.skip | (apply AWp.regionQ; kernel_rfl; kernel_rfl) | (apply w_skip; exact rfl) | (apply w_pickT; exact rfl; exact rfl; exact rfl) | (apply w_pickF; exact rfl; exact rfl; exact rfl) | (apply w_len; exact rfl; exact rfl; first | exact .ints _ | exact .intss _ | exact .sli rfl | exact .sls rfl | exact .slr rfl | exact .orow rfl | exact .nil) | (apply w_call (l01In_c _ _ _); exact rfl; exact rfl; focus ((repeat (first | exact im_nil | refine im_cons rfl (.val _) ?_)); done)) | omega | ((first | apply w_lss | apply w_leq | apply w_gtr | apply w_neq | apply w_add | apply w_idx | apply w_ld | apply w_fa); iterate 3 exact rfl) | ((first | apply w_idxs | apply w_lds); iterate 3 exact rfl) | ((apply w_not); iterate 2 exact rfl) | (apply w_ldb; iterate 5 exact rfl) | (apply inI_of <;> omega))
    all_goals first
      | exact .bool Try.results47 rfl (isPo_false (i := 0) (by omega) (fun hz => by unfold PR Bef at hz; simp only [Int.natCast_zero] at hz; omega))
      | (refine ⟨0 + 1, ⟨by omega, fun j hj => ?_⟩, by omega, ⟨lee rfl (by (repeat (first | exact le_nil | refine le_eq rfl rfl ?_))), by (repeat (first | exact lo_nil | refine lo_eq rfl ?_)), rfl, rfl⟩⟩
         obtain rfl : j = 0 := by omega
         unfold PR
         simp only [Int.natCast_zero]
         omega)
      | (exact .bool Try.results47 rfl (by rw [isPo_all fun j hj => by omega]; simp; try omega))

theorem implIsPoly_c (xss : List (List Int)) : AFnV Try.prog 59 [.agg [.intss xss]] (.bool (isPo xss)) := by
  (refine AFnV.start Try.func59 Try.ntmps59 rfl (by kernel_rfl) fun hk0 => ?_; simp only [Env.start, enumF, List.length_cons, List.length_nil, Nat.reduceAdd, Nat.reduceSub, List.cons_append, List.nil_append])
  have hk := hk0 _ (List.mem_cons_self ..)
  obtain ⟨hk, hl⟩ := hk (.intss xss) (by simp)
  repeat' (first | (apply AOps.nil; try simp only [List.nil_append, List.cons_append, List.set_cons_zero, List.set_cons_succ, List.length_cons, List.length_nil, Nat.reduceAdd, AV.sh, AV.sh1, AV.sh0, AO.sh, List.map_cons, List.map_nil, Nat.zero_add, Nat.add_zero, setAll]) | (apply w_move; exact rfl; exact rfl) | (apply w_assign; exact rfl; exact rfl) | apply AWp.seq | apply AWp.region | ((apply AWp.condP; exact rfl) <;> intro h) | apply AWp.block | apply AWp.ret | apply AWp.skip | (apply w_len; exact rfl; exact rfl; first | exact .ints _ | exact .intss _ | exact .sli rfl | exact .sls rfl | exact .slr rfl | exact .orow rfl | exact .nil) | ((first | apply w_gtr | apply w_ld | apply w_fa); iterate 3 exact rfl) | ((apply w_boxa); iterate 2 exact rfl) | (apply w_ldb; iterate 5 exact rfl))
  · exact .bool Try.results59 rfl (isPo_long (by omega))
  refine AWp.loop (ι := Nat) (fun i => ⟨47, [(0, .agg [.intss xss]), (1, .optr 0 0), (10, .intss xss), (11, .i xss.length), (12, .i i)]⟩) (fun _ => [.bx 50 [.intss xss]]) (fun i => i ≤ xss.length ∧ ∀ j, j < i → PR xss j) (fun i => xss.length - i) 0 ⟨by omega, fun j hj => by omega⟩ ⟨lee rfl (by (repeat (first | exact le_nil | refine le_eq rfl rfl ?_))), by (repeat (first | exact lo_nil | refine lo_eq rfl ?_)), rfl, rfl⟩ ?_
  rintro i ⟨h0, h1⟩
  by_cases hi : i < xss.length
  · by_cases hz : (gets xss i).length = 3
    · by_cases hi0 : 0 < i
      · have hp := h1 (i - 1) (by omega)
        unfold PR at hp
        rw [show ((i - 1 : Nat) : Int) = ((i : Int) - 1) by omega] at hp
        obtain ⟨q0, q1, q2, q3, _⟩ := hp
        by_cases hr : (0 ≤ geti (gets xss i) 0 ∧ geti (gets xss i) 0 ≤ 60) ∧ (0 ≤ geti (gets xss i) 1 ∧ geti (gets xss i) 1 ≤ 60)
        · obtain ⟨r1, r2⟩ := hr
          have hb := cmpT_bef (gets xss ((i : Int) - 1)) (gets xss i)
          repeat' (first | (apply AOps.nil; try simp only [List.nil_append, List.cons_append, List.set_cons_zero, List.set_cons_succ, List.length_cons, List.length_nil, Nat.reduceAdd, AV.sh, AV.sh1, AV.sh0, AO.sh, List.map_cons, List.map_nil, Nat.zero_add, Nat.add_zero, setAll]) | ((apply AOps.splitP; exact rfl; exact rfl) <;> intro h) | ((apply AOps.splitN; exact rfl; exact rfl) <;> intro h) | (apply w_move; exact rfl; exact rfl) | (apply w_assign; exact rfl; exact rfl) | apply AWp.seq | apply AWp.region | ((apply AWp.condP; exact rfl) <;> intro h) | ((apply AWp.condN; exact rfl) <;> intro h) | (apply AWp.condT; exact rfl) | (apply AWp.condF; exact rfl) | apply AWp.block | apply AWp.ret | apply AWp.exit | apply AWp.skip | (apply w_skip; exact rfl) | (apply w_pickT; exact rfl; exact rfl; exact rfl) | (apply w_pickF; exact rfl; exact rfl; exact rfl) | (apply w_len; exact rfl; exact rfl; first | exact .ints _ | exact .intss _ | exact .sli rfl | exact .sls rfl | exact .slr rfl | exact .orow rfl | exact .nil) | (apply w_call (within3_c _ hz); exact rfl; exact rfl; focus ((repeat (first | exact im_nil | refine im_cons rfl (.val _) ?_ | refine im_cons rfl (.ints _) ?_)); done)) | (apply w_call (inRange_c _ _ _); exact rfl; exact rfl; focus ((repeat (first | exact im_nil | refine im_cons rfl (.val _) ?_)); done)) | (apply w_call (compareTerms_c _ _ q0 hz q1 q2 r1 r2); exact rfl; exact rfl; focus ((repeat (first | exact im_nil | refine im_cons rfl (.ints _) ?_)); done)) | ((first | apply w_lss | apply w_gtr | apply w_geq | apply w_neq | apply w_add | apply w_sub | apply w_idx | apply w_ld | apply w_fa | apply w_slhi); iterate 3 exact rfl) | ((first | apply w_idxs | apply w_lds); iterate 3 exact rfl) | ((apply w_not); iterate 2 exact rfl) | (apply w_ldb; iterate 5 exact rfl) | (apply inI_of <;> omega) | omega)
          all_goals first
            | (refine .bool Try.results59 rfl (isPo_false (i := i) hi ?_)
               intro hz
               unfold PR at hz
               first
                 | omega
                 | exact absurd (hz.2.2.2.2 hi0) (hb.1 (by assumption)))
            | (refine ⟨i + 1, ⟨by omega, fun j hj => ?_⟩, by omega, ⟨lee rfl (by (repeat (first | exact le_nil | refine le_eq rfl rfl ?_))), by (repeat (first | exact lo_nil | refine lo_eq rfl ?_)), rfl, rfl⟩⟩
               by_cases e : j = i
               · subst e
                 refine ⟨hz, r1, r2, by omega, fun _ => ?_⟩
                 exact Classical.byContradiction fun hn => by have := hb.2 hn; omega
               · exact h1 j (by omega))
        · repeat' (first | (apply AOps.nil; try simp only [List.nil_append, List.cons_append, List.set_cons_zero, List.set_cons_succ, List.length_cons, List.length_nil, Nat.reduceAdd, AV.sh, AV.sh1, AV.sh0, AO.sh, List.map_cons, List.map_nil, Nat.zero_add, Nat.add_zero, setAll]) | ((apply AOps.splitP; exact rfl; exact rfl) <;> intro h) | ((apply AOps.splitN; exact rfl; exact rfl) <;> intro h) | (apply w_move; exact rfl; exact rfl) | (apply w_assign; exact rfl; exact rfl) | apply AWp.seq | apply AWp.region | ((apply AWp.condP; exact rfl) <;> intro h) | (apply AWp.condT; exact rfl) | apply AWp.block | apply AWp.ret | apply AWp.exit | apply AWp.skip | (apply w_skip; exact rfl) | (apply w_pickT; exact rfl; exact rfl; exact rfl) | (apply w_pickF; exact rfl; exact rfl; exact rfl) | (apply w_len; exact rfl; exact rfl; first | exact .ints _ | exact .intss _ | exact .sli rfl | exact .sls rfl | exact .slr rfl | exact .orow rfl | exact .nil) | (apply w_call (within3_c _ hz); exact rfl; exact rfl; focus ((repeat (first | exact im_nil | refine im_cons rfl (.val _) ?_ | refine im_cons rfl (.ints _) ?_)); done)) | omega | ((first | apply w_lss | apply w_neq | apply w_idx | apply w_ld | apply w_slhi); iterate 3 exact rfl) | ((first | apply w_idxs | apply w_lds); iterate 3 exact rfl) | ((apply w_not); iterate 2 exact rfl))
          all_goals refine .bool Try.results59 rfl (isPo_false (i := i) hi ?_)
          all_goals intro hz
          all_goals unfold PR at hz
          all_goals omega
      · obtain rfl : i = 0 := by omega
        simp only [Int.natCast_zero] at *
        repeat' (first | (apply AOps.nil; try simp only [List.nil_append, List.cons_append, List.set_cons_zero, List.set_cons_succ, List.length_cons, List.length_nil, Nat.reduceAdd, AV.sh, AV.sh1, AV.sh0, AO.sh, List.map_cons, List.map_nil, Nat.zero_add, Nat.add_zero, setAll]) | ((apply AOps.splitP; exact rfl; exact rfl) <;> intro h) | ((apply AOps.splitN; exact rfl; exact rfl) <;> intro h) | (apply w_move; exact rfl; exact rfl) | (apply w_assign; exact rfl; exact rfl) | apply AWp.seq | apply AWp.region | ((apply AWp.condP; exact rfl) <;> intro h) | ((apply AWp.condN; exact rfl) <;> intro h) | (apply AWp.condT; exact rfl) | (apply AWp.condF; exact rfl) | apply AWp.block | apply AWp.ret | apply AWp.exit | apply AWp.skip | (apply w_skip; exact rfl) | (apply w_pickT; exact rfl; exact rfl; exact rfl) | (apply w_pickF; exact rfl; exact rfl; exact rfl) | (apply w_len; exact rfl; exact rfl; first | exact .ints _ | exact .intss _ | exact .sli rfl | exact .sls rfl | exact .slr rfl | exact .orow rfl | exact .nil) | (apply w_call (within3_c _ hz); exact rfl; exact rfl; focus ((repeat (first | exact im_nil | refine im_cons rfl (.val _) ?_ | refine im_cons rfl (.ints _) ?_)); done)) | (apply w_call (inRange_c _ _ _); exact rfl; exact rfl; focus ((repeat (first | exact im_nil | refine im_cons rfl (.val _) ?_)); done)) | omega | ((first | apply w_lss | apply w_gtr | apply w_neq | apply w_add | apply w_idx | apply w_ld | apply w_slhi); iterate 3 exact rfl) | ((first | apply w_idxs | apply w_lds); iterate 3 exact rfl) | ((apply w_not); iterate 2 exact rfl) | (apply inI_of <;> omega))
        all_goals first
          | (refine .bool Try.results59 rfl (isPo_false (i := 0) hi ?_)
             intro hz
             unfold PR at hz
             simp only [Int.natCast_zero] at hz
             omega)
          | (refine ⟨0 + 1, ⟨by omega, fun j hj => ?_⟩, by omega, ⟨lee rfl (by (repeat (first | exact le_nil | refine le_eq rfl rfl ?_))), by (repeat (first | exact lo_nil | refine lo_eq rfl ?_)), rfl, rfl⟩⟩
             obtain rfl : j = 0 := by omega
             unfold PR
             simp only [Int.natCast_zero]
             omega)
    · repeat' (first | (apply AOps.nil; try simp only [List.nil_append, List.cons_append, List.set_cons_zero, List.set_cons_succ, List.length_cons, List.length_nil, Nat.reduceAdd, AV.sh, AV.sh1, AV.sh0, AO.sh, List.map_cons, List.map_nil, Nat.zero_add, Nat.add_zero, setAll]) | ((apply AOps.splitP; exact rfl; exact rfl) <;> intro h) | (apply w_move; exact rfl; exact rfl) | (apply w_assign; exact rfl; exact rfl) | apply AWp.seq | apply AWp.region | ((apply AWp.condP; exact rfl) <;> intro h) | (apply AWp.condT; exact rfl) | apply AWp.block | apply AWp.ret | apply AWp.exit | apply AWp.skip | (apply w_skip; exact rfl) | (apply w_pickT; exact rfl; exact rfl; exact rfl) | (apply w_len; exact rfl; exact rfl; first | exact .ints _ | exact .intss _ | exact .sli rfl | exact .sls rfl | exact .slr rfl | exact .orow rfl | exact .nil) | omega | ((first | apply w_lss | apply w_neq | apply w_idx | apply w_ld); iterate 3 exact rfl) | ((first | apply w_idxs | apply w_lds); iterate 3 exact rfl))
      all_goals refine .bool Try.results59 rfl (isPo_false (i := i) hi ?_)
      all_goals intro hz
      all_goals unfold PR at hz
      all_goals omega
  · repeat' (first | (apply AOps.nil; try simp only [List.nil_append, List.cons_append, List.set_cons_zero, List.set_cons_succ, List.length_cons, List.length_nil, Nat.reduceAdd, AV.sh, AV.sh1, AV.sh0, AO.sh, List.map_cons, List.map_nil, Nat.zero_add, Nat.add_zero, setAll]) | (apply w_move; exact rfl; exact rfl) | (apply w_assign; exact rfl; exact rfl) | apply AWp.seq | apply AWp.region | ((apply AWp.condP; exact rfl) <;> intro h) | apply AWp.block | apply AWp.ret | apply AWp.exit | apply AWp.skip | omega | ((apply w_lss); iterate 3 exact rfl))
    have e : i = xss.length := by omega
    subst e
    refine .bool Try.results59 rfl ?_
    rw [isPo_all h1, eq_comm]
    simp
    omega

/-! ### Orders -/
end Go.Proofs.Ytifkgmbghcmdeaa
