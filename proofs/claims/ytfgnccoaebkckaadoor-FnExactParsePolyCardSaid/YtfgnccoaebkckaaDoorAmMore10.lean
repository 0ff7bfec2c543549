/-
  Own slices put together out of rows of another one and of one more row; functions that are handed an own slice of rows and hand one back in its place. No condition.
-/
import Derived.Test.YtfgnccoaebkckaaDoorAmMore7
namespace Go.Proofs.YtfgnccoaebkckaaDoor
open Go Go.RowKit

/-- Object 'p' takes the blocks of the objects 'k' and 'm', which are no more. -/
theorem Rel.absorb2 {base : Nat} {w w' : World} {gs : List Gh} {env : Env} {os : List AO} {tm : Array Value} (h : Rel base w gs env os tm) {p k : Nat} {g gk : Gh} {o ok : AO} (hg : gs[p]? = some g) (ho : os[p]? = some o) (hlv : o.live)
    (hgk : gs[k]? = some gk) (hok : os[k]? = some ok) (hlk : ok.live) (hpk : p ≠ k) {m : Nat} {gm : Gh} {om : AO} (hgm : gs[m]? = some gm) (hom : os[m]? = some om) (hlm : om.live) (hpm : p ≠ m) (g' : Gh) (o' : AO) (f : AV → AV) (hf : f .any = .any)
    (hw : ∀ b, b < w.heap.size → b ∉ g.bl → w'.heap[b]? = w.heap[b]?) (hsz : w.heap.size ≤ w'.heap.size)
    (hbl : ∀ b, b ∈ g'.bl → (b ∈ g.bl ∨ b ∈ gk.bl ∨ b ∈ gm.bl ∨ w.heap.size ≤ b) ∧ b < w'.heap.size)
    (hrv : ∀ {ok' : Nat → Prop} {v : Value} {a : AV}, Keeps (okOf gs os) ok' w w' → RV w (okOf gs os) gs v a → RV w' ok' (gs.set p g') v (f a))
    (hro : Keeps (okOf gs os) (okOf (gs.set p g') ((((os.map (AO.via f p)).set p o').set k .dead).set m .dead)) w w' → RO base w' (okOf (gs.set p g') ((((os.map (AO.via f p)).set p o').set k .dead).set m .dead)) (gs.set p g') g' o') :
    Rel base w' (gs.set p g') (env.mp f) ((((os.map (AO.via f p)).set p o').set k .dead).set m .dead) tm := by
  have hnd := hlv.ne
  have hnk := hlk.ne
  have hnm := hlm.ne
  have hpg : p < gs.length := (List.getElem?_eq_some_iff.1 hg).1
  have hpo : p < os.length := (List.getElem?_eq_some_iff.1 ho).1
  have hko : k < os.length := (List.getElem?_eq_some_iff.1 hok).1
  have hmo : m < os.length := (List.getElem?_eq_some_iff.1 hom).1
  have gset : ∀ {i : Nat} {x : Gh}, (gs.set p g')[i]? = some x → (i = p ∧ x = g') ∨ (i ≠ p ∧ gs[i]? = some x) := by
    intro i x e
    rw [List.getElem?_set] at e
    split at e
    · subst_vars; simp at e; exact .inl ⟨rfl, e.symm⟩
    · exact .inr ⟨fun e' => by simp_all, e⟩
  -- an object of the new state that is there
  have oset : ∀ {i : Nat} {x : AO}, ((((os.map (AO.via f p)).set p o').set k .dead).set m .dead)[i]? = some x → x ≠ .dead → i ≠ k ∧ i ≠ m ∧ ((i = p ∧ x = o') ∨ (i ≠ p ∧ ∃ y, os[i]? = some y ∧ x = y.via f p)) := by
    intro i x e hx
    rw [List.getElem?_set] at e
    split at e
    · subst_vars; simp [hmo] at e; exact absurd e.symm hx
    rename_i him
    rw [List.getElem?_set] at e
    split at e
    · subst_vars; simp [hko] at e; exact absurd e.symm hx
    · rename_i hik
      refine ⟨fun e' => hik e'.symm, fun e' => him e'.symm, ?_⟩
      rw [List.getElem?_set] at e
      split at e
      · subst_vars; simp [hpo] at e; exact .inl ⟨rfl, e.symm⟩
      · refine .inr ⟨fun e' => by simp_all, ?_⟩
        rw [List.getElem?_map] at e
        cases hy : os[i]? with
        | none => simp [hy] at e
        | some y => simp [hy] at e; exact ⟨y, rfl, e.symm⟩
  have kp : Keeps (okOf gs os) (okOf (gs.set p g') ((((os.map (AO.via f p)).set p o').set k .dead).set m .dead)) w w' := by
    intro b hb hlt
    refine ⟨?_, hw b hlt (hb p g o hg ho hlv)⟩
    intro i x y hx hy hny hmem
    obtain ⟨hik, him, hy'⟩ := oset hy hny.ne
    rcases gset hx with ⟨rfl, rfl⟩ | ⟨hi, hx'⟩
    · rcases (hbl b hmem).1 with h1 | h1 | h1 | h1
      · exact hb i g o hg ho hlv h1
      · exact hb k gk ok hgk hok hlk h1
      · exact hb m gm om hgm hom hlm h1
      · omega
    · rcases hy' with ⟨rfl, rfl⟩ | ⟨_, z, hz, rfl⟩
      · exact hi rfl
      · exact hb i x z hx' hz (AO.via_live.1 hny) hmem
  refine ⟨Nat.le_trans h.hb hsz, by simp [h.hl], h.hs, fun i => by rw [Env.lk_mp _ hf]; exact hrv kp (h.he i), ?_, ?_, ?_⟩
  · intro i x y hx hy
    by_cases hyd : y = .dead
    · subst hyd; trivial
    · obtain ⟨hik, him, hy'⟩ := oset hy hyd
      rcases gset hx with ⟨rfl, rfl⟩ | ⟨hi, hx'⟩
      · rcases hy' with ⟨_, rfl⟩ | ⟨hi, _⟩
        · exact hro kp
        · exact absurd rfl hi
      · rcases hy' with ⟨rfl, rfl⟩ | ⟨_, z, hz, rfl⟩
        · exact absurd rfl hi
        · have hz' := h.ho i x z hx' hz
          have same : z ≠ .dead → ∀ b, b ∈ x.bl → w'.heap[b]? = w.heap[b]? := fun hn b hb =>
            hw b (h.hn i x z hx' hz hn b hb).2 (h.hd i p x g z o hi hx' hg hz ho hn hnd b hb)
          cases z with
          | ob q => exact q.up (fun b hb => same (by simp) b hb) hz'
          | bx T avs =>
            obtain ⟨cs, h1, h2, h3, h4, h5, h6, h7⟩ := hz'
            exact ⟨cs, by rw [same (by simp) x.b (by simp [h3])]; exact h1, h2, h3, h4, by simpa using h5, h6, fun j => by rw [getD_map_f _ hf]; exact hrv kp (h7 j)⟩
          | keep n K =>
            obtain ⟨h1, h2, h3⟩ := hz'
            have hs : ∀ b, b ∈ x.bl → w'.heap[b]? = K.snap b := fun b hb => by rw [same (by simp) b hb]; exact h1 b hb
            simp only [AO.via]
            split
            · exact ⟨hs, rfl, fun i x hx => by simp at hx⟩
            · refine ⟨hs, h2, fun i y hy => ?_⟩
              have := (List.getElem?_eq_some_iff.1 hy).1
              rw [List.getElem?_set, if_neg (by omega)]
              exact h3 i y hy
          | dead => trivial
          | sli e xs =>
            obtain ⟨h1, h2, h3⟩ := hz'
            exact ⟨ownsRow_of_block h1 fun b hb => same (by simp) b (h3.mem hb), h2, h3⟩
          | slr e avs =>
            obtain ⟨vs, h1, h2, h3, h4⟩ := hz'
            exact ⟨vs, ownsRow_of_block h1 fun b hb => same (by simp) b (h4.mem hb), by simpa using h2, fun j => by rw [getD_map_f _ hf]; exact hrv kp (h3 j), h4⟩
          | sls e e2 xss =>
            obtain ⟨vs, bs, mb, h1, h2, h3, h4, h5, h6, h7, h8⟩ := hz'
            refine ⟨vs, bs, mb, ownsRow_of_block h1 fun b hb => same (by simp) b ?_, h2, h3, h4, fun i u hu => ?_, h6, h7, h8⟩
            · rw [h7]
              rcases h6 with ⟨h6, _⟩ | ⟨h6, h6'⟩
              · rw [h6] at hb; cases hb
              · rw [h6] at hb; cases hb; simp [h6']
            · obtain ⟨r1, r2, r3⟩ := h5 i u hu
              refine ⟨ownsRow_of_block r1 fun b hb => same (by simp) b ?_, r2, r3⟩
              rw [h7]
              refine List.mem_append.2 (.inr (List.mem_flatten.2 ⟨bs.getD i [], ?_, by rw [← r3, hb]; simp⟩))
              have hi : i < bs.length := by
                have := (List.getElem?_eq_some_iff.1 hu).1
                omega
              rw [List.getD_eq_getElem?_getD, List.getElem?_eq_getElem hi]
              simp
  · -- what p has now is apart from all others
    have apart : ∀ {j : Nat} {x : Gh} {z : AO}, j ≠ p → j ≠ k → j ≠ m → gs[j]? = some x → os[j]? = some z → z ≠ .dead → ∀ b, b ∈ g'.bl → b ∉ x.bl := by
      intro j x z hjp hjk hjm hx hz hzn b hb hb2
      rcases (hbl b hb).1 with h1 | h1 | h1 | h1
      · exact h.hd p j g x o z (fun e => hjp e.symm) hg hx ho hz hnd hzn b h1 hb2
      · exact h.hd k j gk x ok z (fun e => hjk e.symm) hgk hx hok hz hnk hzn b h1 hb2
      · exact h.hd m j gm x om z (fun e => hjm e.symm) hgm hx hom hz hnm hzn b h1 hb2
      · have := (h.hn j x z hx hz hzn b hb2).2; omega
    intro i j g1 g2 o1 o2 hij hg1 hg2 ho1 ho2 hn1 hn2 b hb1 hb2
    obtain ⟨hik, him, ho1'⟩ := oset ho1 hn1
    obtain ⟨hjk, hjm, ho2'⟩ := oset ho2 hn2
    rcases gset hg1 with ⟨rfl, rfl⟩ | ⟨hi, hg1'⟩
    · rcases gset hg2 with ⟨rfl, _⟩ | ⟨hj, hg2'⟩
      · exact hij rfl
      · rcases ho2' with ⟨rfl, _⟩ | ⟨_, z, hz, rfl⟩
        · exact hij rfl
        · exact apart hj hjk hjm hg2' hz (fun e => hn2 (AO.via_dead.2 e)) b hb1 hb2
    · rcases ho1' with ⟨rfl, _⟩ | ⟨_, z, hz, rfl⟩
      · exact absurd rfl hi
      · have hzn : z ≠ .dead := fun e => hn1 (AO.via_dead.2 e)
        rcases gset hg2 with ⟨rfl, rfl⟩ | ⟨hj, hg2'⟩
        · exact apart hi hik him hg1' hz hzn b hb2 hb1
        · rcases ho2' with ⟨rfl, _⟩ | ⟨_, y, hy, rfl⟩
          · exact absurd rfl hj
          · exact h.hd i j g1 g2 z y hij hg1' hg2' hz hy hzn (fun e => hn2 (AO.via_dead.2 e)) b hb1 hb2
  · intro i x y hx hy hny b hb
    obtain ⟨hik, him, hy'⟩ := oset hy hny
    rcases gset hx with ⟨rfl, rfl⟩ | ⟨hi, hx'⟩
    · have := hbl b hb
      refine ⟨?_, this.2⟩
      rcases this.1 with h1 | h1 | h1 | h1
      · exact (h.hn i g o hg ho hnd b h1).1
      · exact (h.hn k gk ok hgk hok hnk b h1).1
      · exact (h.hn m gm om hgm hom hnm b h1).1
      · exact Nat.le_trans h.hb h1
    · rcases hy' with ⟨rfl, rfl⟩ | ⟨_, z, hz, rfl⟩
      · exact absurd rfl hi
      · have := h.hn i x z hx' hz (fun e => hny (AO.via_dead.2 e)) b hb
        exact ⟨this.1, Nat.lt_of_lt_of_le this.2 hsz⟩


theorem nodup_append3 {a b c : List Nat} (ha : a.Nodup) (hb : b.Nodup) (hc : c.Nodup) (hab : ∀ x ∈ a, x ∉ b) (hac : ∀ x ∈ a, x ∉ c) (hbc : ∀ x ∈ b, x ∉ c) : (a ++ (b ++ c)).Nodup := by
  rw [List.nodup_append]
  refine ⟨ha, ?_, ?_⟩
  · rw [List.nodup_append]
    exact ⟨hb, hc, fun x hx y hy e => hbc x hx (e ▸ hy)⟩
  · intro x hx y hy e
    subst e
    rcases List.mem_append.1 hy with hy | hy
    · exact hab x hx hy
    · exact hac x hx hy

set_option maxHeartbeats 2000000 in
/-- The slice 'p' of rows of 'k', with the row 'm' among them, takes them all; 'k' and 'm' are no more. -/
theorem Rel.gather {base : Nat} {w : World} {gs : List Gh} {env : Env} {os : List AO} {tm : Array Value} (h : Rel base w gs env os tm) {p k m : Nat} {e e2 e3 e4 : TypeId} {xss : List (List Int)} {ys : List Int} {i1 i2 : List Nat}
    (hs : os[p]? = some (.slr e (i1.map (AV.orow k) ++ .own m :: i2.map (AV.orow k)))) (hk : os[k]? = some (.sls e3 e2 xss)) (hm : os[m]? = some (.sli e4 ys)) (he : e4 = e2) (hnd : (i1 ++ i2).Nodup) :
    ∃ gs', Rel base w gs' (env.mp (AV.noRow p)) ((((os.map (AO.via (AV.noRow p) p)).set p (.sls e e2 (i1.map (fun i => xss.getD i []) ++ ys :: i2.map fun i => xss.getD i []))).set k .dead).set m .dead) tm := by
  subst he
  have hne : p ≠ k := fun e => by subst e; rw [hs] at hk; cases hk
  have hnm : p ≠ m := fun e => by subst e; rw [hs] at hm; cases hm
  have hkm : k ≠ m := fun e => by subst e; rw [hk] at hm; cases hm
  have hpo : p < os.length := (List.getElem?_eq_some_iff.1 hs).1
  have hko : k < os.length := (List.getElem?_eq_some_iff.1 hk).1
  have hmo : m < os.length := (List.getElem?_eq_some_iff.1 hm).1
  obtain ⟨gp, hgp⟩ : ∃ x, gs[p]? = some x := ⟨_, List.getElem?_eq_getElem (by rw [h.hl]; exact hpo)⟩
  obtain ⟨gk, hgk⟩ : ∃ x, gs[k]? = some x := ⟨_, List.getElem?_eq_getElem (by rw [h.hl]; exact hko)⟩
  obtain ⟨gm, hgm⟩ : ∃ x, gs[m]? = some x := ⟨_, List.getElem?_eq_getElem (by rw [h.hl]; exact hmo)⟩
  obtain ⟨vs, a1, a2, a3, a4⟩ := h.ho _ _ _ hgp hs
  obtain ⟨us, bs, mb, b1, b2, b3, b4, b5, b6, b7, b8⟩ := h.ho _ _ _ hgk hk
  obtain ⟨c1, c2, c3⟩ := h.ho _ _ _ hgm hm
  have a2' : vs.length = i1.length + (i2.length + 1) := by simpa using a2
  have row : ∀ (j : Nat) u i, vs[j]? = some u → ((i1.map (AV.orow k) ++ .own m :: i2.map (AV.orow k)) : List AV)[j]? = some (.orow k i) → us[i]? = some u := by
    intro j u i hj hi
    have hrv := a3 j
    rw [List.getD_eq_getElem?_getD, hj, List.getD_eq_getElem?_getD, hi] at hrv
    simp only [Option.getD_some] at hrv
    cases hrv with
    | @orow _ _ g0 _ q1 q2 =>
      rw [hgk] at q1
      cases q1
      rw [b4] at q2
      exact q2
  have rowm : ∀ (j : Nat) u, vs[j]? = some u → ((i1.map (AV.orow k) ++ .own m :: i2.map (AV.orow k)) : List AV)[j]? = some (.own m) → u = gm.v := by
    intro j u hj hi
    have hrv := a3 j
    rw [List.getD_eq_getElem?_getD, hj, List.getD_eq_getElem?_getD, hi] at hrv
    simp only [Option.getD_some] at hrv
    cases hrv with
    | own q1 =>
      rw [hgm] at q1
      cases q1
      rfl
  have at1 : ∀ j, j < i1.length → ((i1.map (AV.orow k) ++ .own m :: i2.map (AV.orow k)) : List AV)[j]? = some (.orow k (i1.getD j 0)) := fun j hj => by
    rw [List.getElem?_append_left (by simpa using hj), List.getElem?_map, List.getElem?_eq_getElem hj, List.getD_eq_getElem?_getD, List.getElem?_eq_getElem hj]; rfl
  have at2 : ((i1.map (AV.orow k) ++ .own m :: i2.map (AV.orow k)) : List AV)[i1.length]? = some (.own m) := by
    rw [List.getElem?_append_right (by simp)]; simp
  have at3 : ∀ j, j < i2.length → ((i1.map (AV.orow k) ++ .own m :: i2.map (AV.orow k)) : List AV)[i1.length + 1 + j]? = some (.orow k (i2.getD j 0)) := fun j hj => by
    rw [List.getElem?_append_right (by simp; omega)]
    simp only [List.length_map]
    rw [show i1.length + 1 + j - i1.length = j + 1 by omega, List.getElem?_cons_succ, List.getElem?_map, List.getElem?_eq_getElem hj, List.getD_eq_getElem?_getD, List.getElem?_eq_getElem hj]; rfl
  have hidx : ∀ i ∈ i1 ++ i2, i < bs.length := by
    intro i hi
    rcases List.mem_append.1 hi with hi | hi
    · obtain ⟨j, hj⟩ := List.getElem?_of_mem hi
      have hjl := (List.getElem?_eq_some_iff.1 hj).1
      have := row j _ _ (List.getElem?_eq_getElem (by omega)) (at1 j hjl)
      rw [List.getD_eq_getElem?_getD, hj] at this
      have := (List.getElem?_eq_some_iff.1 this).1
      simp only [Option.getD_some] at this
      omega
    · obtain ⟨j, hj⟩ := List.getElem?_of_mem hi
      have hjl := (List.getElem?_eq_some_iff.1 hj).1
      have := row (i1.length + 1 + j) _ _ (List.getElem?_eq_getElem (by omega)) (at3 j hjl)
      rw [List.getD_eq_getElem?_getD, hj] at this
      have := (List.getElem?_eq_some_iff.1 this).1
      simp only [Option.getD_some] at this
      omega
  let f1 : List (List Nat) := i1.map fun i => bs.getD i []
  let f2 : List (List Nat) := i2.map fun i => bs.getD i []
  let cs : List (List Nat) := f1 ++ gm.bl :: f2
  let g' : Gh := ⟨gp.v, gp.b, gp.bl ++ cs.flatten, vs⟩
  have hsub : ∀ (l : List Nat), (∀ i ∈ l, i < bs.length) → ∀ b, b ∈ (l.map fun i => bs.getD i []).flatten → b ∈ bs.flatten := by
    intro l hl b hb
    obtain ⟨r, hr, hbl⟩ := List.mem_flatten.1 hb
    obtain ⟨i, hi, rfl⟩ := List.mem_map.1 hr
    have hil := hl i hi
    rw [List.getD_eq_getElem?_getD, List.getElem?_eq_getElem hil] at hbl
    exact List.mem_flatten.2 ⟨_, List.getElem_mem hil, hbl⟩
  have h1 : ∀ b, b ∈ f1.flatten → b ∈ gk.bl := fun b hb => by rw [b7]; exact List.mem_append.2 (.inr (hsub i1 (fun i hi => hidx i (List.mem_append.2 (.inl hi))) b hb))
  have h2 : ∀ b, b ∈ f2.flatten → b ∈ gk.bl := fun b hb => by rw [b7]; exact List.mem_append.2 (.inr (hsub i2 (fun i hi => hidx i (List.mem_append.2 (.inr hi))) b hb))
  have ecs : cs.flatten = f1.flatten ++ (gm.bl ++ f2.flatten) := by simp [cs]
  have hcs : ∀ b, b ∈ cs.flatten → b ∈ gk.bl ∨ b ∈ gm.bl := fun b hb => by
    rw [ecs] at hb
    rcases List.mem_append.1 hb with hb | hb
    · exact .inl (h1 b hb)
    · rcases List.mem_append.1 hb with hb | hb
      · exact .inr hb
      · exact .inl (h2 b hb)
  have dkm : ∀ b, b ∈ gk.bl → b ∉ gm.bl := fun b hb => h.hd k m gk gm _ _ hkm hgk hgm hk hm (by simp) (by simp) b hb
  have dpk : ∀ b, b ∈ gp.bl → b ∉ gk.bl := fun b hb => h.hd p k gp gk _ _ hne hgp hgk hs hk (by simp) (by simp) b hb
  have dpm : ∀ b, b ∈ gp.bl → b ∉ gm.bl := fun b hb => h.hd p m gp gm _ _ hnm hgp hgm hs hm (by simp) (by simp) b hb
  have hgl : p < gs.length := by rw [h.hl]; exact hpo
  have sv : SameV p gs (gs.set p g') := by
    refine ⟨fun j z hj hz => ?_, fun z hz => ⟨g', by simp [hgl], ?_, ?_⟩⟩
    · rw [List.getElem?_set, if_neg (fun e => hj e.symm)]; exact hz
    · rw [hgp] at hz; cases hz; rfl
    · rw [hgp] at hz; cases hz; rfl
  have hnd12 := List.nodup_append.1 hnd
  have nf : (f1.flatten ++ f2.flatten).Nodup := by
    have : ((i1 ++ i2).map fun i => bs.getD i []).flatten.Nodup := nodup_sel (by rw [b7] at b8; exact (List.nodup_append.1 b8).2.1) hnd hidx
    rw [List.map_append, List.flatten_append] at this
    exact this
  have nf' := List.nodup_append.1 nf
  refine ⟨gs.set p g', h.absorb2 hgp hs trivial hgk hk trivial hne hgm hm trivial hnm g' _ (AV.noRow p) rfl (fun _ _ _ => rfl) (Nat.le_refl _) ?_ (fun kp hv => hv.noRow kp sv) ?_⟩
  · intro b hb
    rcases List.mem_append.1 hb with hb | hb
    · exact ⟨.inl hb, (h.hn _ _ _ hgp hs (by simp) b hb).2⟩
    · rcases hcs b hb with h3 | h3
      · exact ⟨.inr (.inl h3), (h.hn _ _ _ hgk hk (by simp) b h3).2⟩
      · exact ⟨.inr (.inr (.inl h3)), (h.hn _ _ _ hgm hm (by simp) b h3).2⟩
  · intro kp
    refine ⟨vs, cs, gp.bl, a1, by simp [a2'], by simp [cs, f1, f2], rfl, fun j u hj => ?_, a4, rfl, ?_⟩
    · have hjl := (List.getElem?_eq_some_iff.1 hj).1
      rcases Nat.lt_trichotomy j i1.length with hlt | heq | hgt
      · have q := row j u _ hj (at1 j hlt)
        have g1 : (i1.map (fun i => xss.getD i []) ++ ys :: i2.map fun i => xss.getD i []).getD j [] = xss.getD (i1.getD j 0) [] := by
          rw [List.getD_eq_getElem?_getD, List.getElem?_append_left (by simpa using hlt), List.getElem?_map, List.getElem?_eq_getElem hlt, List.getD_eq_getElem?_getD (l := i1), List.getElem?_eq_getElem hlt]; rfl
        have g2 : cs.getD j [] = bs.getD (i1.getD j 0) [] := by
          show (f1 ++ gm.bl :: f2).getD j [] = _
          rw [List.getD_eq_getElem?_getD, List.getElem?_append_left (by simpa [f1] using hlt), List.getElem?_map, List.getElem?_eq_getElem hlt, List.getD_eq_getElem?_getD (l := i1), List.getElem?_eq_getElem hlt]; rfl
        rw [g1, g2]
        exact b5 _ u q
      · subst heq
        have q := rowm _ u hj at2
        subst q
        have g1 : (i1.map (fun i => xss.getD i []) ++ ys :: i2.map fun i => xss.getD i []).getD i1.length [] = ys := by
          rw [List.getD_eq_getElem?_getD, List.getElem?_append_right (by simp)]; simp
        have g2 : cs.getD i1.length [] = gm.bl := by
          show (f1 ++ gm.bl :: f2).getD i1.length [] = _
          rw [List.getD_eq_getElem?_getD, List.getElem?_append_right (by simp [f1])]; simp [f1]
        rw [g1, g2]
        exact ⟨c1, c2, c3.list⟩
      · obtain ⟨t, rfl⟩ : ∃ t, j = i1.length + 1 + t := ⟨j - (i1.length + 1), by omega⟩
        have htl : t < i2.length := by omega
        have q := row _ u _ hj (at3 t htl)
        have g1 : (i1.map (fun i => xss.getD i []) ++ ys :: i2.map fun i => xss.getD i []).getD (i1.length + 1 + t) [] = xss.getD (i2.getD t 0) [] := by
          rw [List.getD_eq_getElem?_getD, List.getElem?_append_right (by simp; omega)]
          simp only [List.length_map]
          rw [show i1.length + 1 + t - i1.length = t + 1 by omega, List.getElem?_cons_succ, List.getElem?_map, List.getElem?_eq_getElem htl, List.getD_eq_getElem?_getD (l := i2), List.getElem?_eq_getElem htl]; rfl
        have g2 : cs.getD (i1.length + 1 + t) [] = bs.getD (i2.getD t 0) [] := by
          show (f1 ++ gm.bl :: f2).getD (i1.length + 1 + t) [] = _
          rw [List.getD_eq_getElem?_getD, List.getElem?_append_right (by simp [f1]; omega)]
          simp only [f1, f2, List.length_map]
          rw [show i1.length + 1 + t - i1.length = t + 1 by omega, List.getElem?_cons_succ, List.getElem?_map, List.getElem?_eq_getElem htl, List.getD_eq_getElem?_getD (l := i2), List.getElem?_eq_getElem htl]; rfl
        rw [g1, g2]
        exact b5 _ u q
    · show (gp.bl ++ cs.flatten).Nodup
      rw [ecs, List.nodup_append]
      refine ⟨a4.nodup, nodup_append3 nf'.1 c3.nodup nf'.2.1 (fun x hx hx2 => dkm x (h1 x hx) hx2) (fun x hx hx2 => nf'.2.2 x hx x hx2 rfl) (fun x hx hx2 => dkm x (h2 x hx2) hx), ?_⟩
      intro a ha b hb e
      subst e
      rw [← ecs] at hb
      rcases hcs a hb with h3 | h3
      · exact dpk a ha h3
      · exact dpm a ha h3

/-- A state may be seen as another one. -/
def Turns (env : Env) (os : List AO) (env' : Env) (os' : List AO) : Prop := ∀ base w gs tm, Rel base w gs env os tm → ∃ gs', Rel base w gs' env' os' tm
theorem Turns.refl {env : Env} {os : List AO} : Turns env os env os := fun _ _ gs _ h => ⟨gs, h⟩
theorem Turns.gather {env : Env} {os : List AO} {p k m : Nat} {e e2 e3 e4 : TypeId} {xss : List (List Int)} {ys : List Int} {i1 i2 : List Nat}
    (hs : os[p]? = some (.slr e (i1.map (AV.orow k) ++ .own m :: i2.map (AV.orow k)))) (hk : os[k]? = some (.sls e3 e2 xss)) (hm : os[m]? = some (.sli e4 ys)) (he : e4 = e2) (hnd : (i1 ++ i2).Nodup) :
    Turns env os (env.mp (AV.noRow p)) ((((os.map (AO.via (AV.noRow p) p)).set p (.sls e e2 (i1.map (fun i => xss.getD i []) ++ ys :: i2.map fun i => xss.getD i []))).set k .dead).set m .dead) := fun _ _ _ _ h => h.gather hs hk hm he hnd
theorem Turns.merge {env : Env} {os : List AO} {p k : Nat} {e e2 e3 : TypeId} {xss : List (List Int)} {idx : List Nat} (hs : os[p]? = some (.slr e (idx.map (AV.orow k)))) (hk : os[k]? = some (.sls e3 e2 xss)) (hnd : idx.Nodup) :
    Turns env os (env.mp (AV.noRow p)) (((os.map (AO.via (AV.noRow p) p)).set p (.sls e e2 (idx.map fun i => xss.getD i []))).set k .dead) := fun _ _ _ _ h => h.merge hs hk hnd
end Go.Proofs.YtfgnccoaebkckaaDoor
