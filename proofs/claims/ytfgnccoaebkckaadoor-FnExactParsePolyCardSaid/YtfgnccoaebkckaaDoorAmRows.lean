/-
  The call's own slices of rows: a row goes in, by a store or by an append; a row's cell is written. No condition.
-/
import Derived.Test.YtfgnccoaebkckaaDoorAmMut
namespace Go.Proofs.YtfgnccoaebkckaaDoor
open Go Go.RowKit

/-- The rows of handle 'h' are no more named. -/
def AV.noRow1 (h : Nat) : AV → AV
  | .orow k i => if k = h then .any else .orow k i
  | .orptr k i j => if k = h then .any else .orptr k i j
  | .agg _ => .any
  | .tup _ => .any
  | a => a
def AV.noRow (h : Nat) : AV → AV
  | .orow k i => if k = h then .any else .orow k i
  | .orptr k i j => if k = h then .any else .orptr k i j
  | .agg l => .agg (l.map (AV.noRow1 h))
  | .tup l => .tup (l.map (AV.noRow1 h))
  | a => a

def AO.via (f : AV → AV) (p : Nat) : AO → AO
  | .bx T avs => .bx T (avs.map f)
  | .slr e avs => .slr e (avs.map f)
  | .keep n K => if p < n then .keep 0 ⟨K.snap, []⟩ else .keep n K
  | o => o
theorem AO.via_dead {f : AV → AV} {p : Nat} {o : AO} : o.via f p = .dead ↔ o = .dead := by cases o <;> simp [AO.via]; split <;> simp
theorem AO.via_live {f : AV → AV} {p : Nat} {o : AO} : (o.via f p).live ↔ o.live := by
  cases o with
  | keep n K => simp only [AO.via]; split <;> exact Iff.rfl
  | _ => exact Iff.rfl

/-- Ghosts other than p stay; that of p keeps its value. -/
structure SameV (p : Nat) (gs gs' : List Gh) : Prop where
  other : ∀ (k : Nat) g, k ≠ p → gs[k]? = some g → gs'[k]? = some g
  same : ∀ g, gs[p]? = some g → ∃ g', gs'[p]? = some g' ∧ g'.v = g.v ∧ g'.b = g.b

section
variable {w w' : World} {ok ok' : Nat → Prop} {gs gs' : List Gh} {p : Nat}

theorem SameV.own (s : SameV p gs gs') {h : Nat} {g : Gh} (hg : gs[h]? = some g) : ∃ g', gs'[h]? = some g' ∧ g'.v = g.v ∧ g'.b = g.b := by
  by_cases e : h = p
  · subst e; exact s.same g hg
  · exact ⟨g, s.other h g e hg, rfl, rfl⟩

theorem RV.noRow1 (k : Keeps ok ok' w w') (s : SameV p gs gs') {v : Value} {a : AV} (hv : RV w ok gs v a) : RV w' ok' gs' v (a.noRow1 p) := by
  cases hv with
  | any v => exact .any v
  | val v => exact .val v
  | ints h => exact .ints (h.mono k)
  | intss h => exact .intss (h.mono k)
  | @ro v r h => exact .ro (r.up k h)
  | iptr h h1 h2 => exact .iptr (h.mono k) h1 h2
  | iiptr h h1 h2 => exact .iiptr (h.mono k) h1 h2
  | own h1 =>
    obtain ⟨g', a1, a2, _⟩ := s.own h1
    rw [← a2]; exact .own a1
  | optr h1 =>
    obtain ⟨g', a1, _, a3⟩ := s.own h1
    rw [← a3]; exact .optr a1
  | osub h1 h2 h3 h4 =>
    obtain ⟨g', a1, _, a3⟩ := s.own h1
    exact .osub a1 (fun hp => by rw [a3]; exact h2 hp) h3 h4
  | @orow j i g v h1 h2 =>
    simp only [AV.noRow1]; split
    · exact .any _
    · exact .orow (s.other _ _ ‹_› h1) h2
  | @orptr j i n blk m c g h1 h2 =>
    simp only [AV.noRow1]; split
    · exact .any _
    · exact .orptr (s.other _ _ ‹_› h1) h2
  | agg _ _ _ => exact .any _
  | tup _ _ => exact .any _

theorem RV.noRow (k : Keeps ok ok' w w') (s : SameV p gs gs') {v : Value} {a : AV} (hv : RV w ok gs v a) : RV w' ok' gs' v (a.noRow p) := by
  cases hv with
  | any v => exact .any v
  | val v => exact .val v
  | ints h => exact .ints (h.mono k)
  | intss h => exact .intss (h.mono k)
  | @ro v r h => exact .ro (r.up k h)
  | iptr h h1 h2 => exact .iptr (h.mono k) h1 h2
  | iiptr h h1 h2 => exact .iiptr (h.mono k) h1 h2
  | own h1 =>
    obtain ⟨g', a1, a2, _⟩ := s.own h1
    rw [← a2]; exact .own a1
  | optr h1 =>
    obtain ⟨g', a1, _, a3⟩ := s.own h1
    rw [← a3]; exact .optr a1
  | osub h1 h2 h3 h4 =>
    obtain ⟨g', a1, _, a3⟩ := s.own h1
    exact .osub a1 (fun hp => by rw [a3]; exact h2 hp) h3 h4
  | @orow j i g v h1 h2 =>
    simp only [AV.noRow]; split
    · exact .any _
    · exact .orow (s.other _ _ ‹_› h1) h2
  | @orptr j i n blk m c g h1 h2 =>
    simp only [AV.noRow]; split
    · exact .any _
    · exact .orptr (s.other _ _ ‹_› h1) h2
  | agg h1 h3 h2 => exact .agg (by simpa using h1) h3 fun i => by rw [getD_map_f _ rfl]; exact (h2 i).noRow1 k s
  | tup h1 h2 => exact .tup (by simpa using h1) fun i => by rw [getD_map_f _ rfl]; exact (h2 i).noRow1 k s
end

/-- Object 'p' takes the blocks of object 'k', which is no more. -/
theorem Rel.absorb {base : Nat} {w w' : World} {gs : List Gh} {env : Env} {os : List AO} {tm : Array Value} (h : Rel base w gs env os tm) {p k : Nat} {g gk : Gh} {o ok : AO} (hg : gs[p]? = some g) (ho : os[p]? = some o) (hlv : o.live)
    (hgk : gs[k]? = some gk) (hok : os[k]? = some ok) (hlk : ok.live) (hpk : p ≠ k) (g' : Gh) (o' : AO) (f : AV → AV) (hf : f .any = .any)
    (hw : ∀ b, b < w.heap.size → b ∉ g.bl → w'.heap[b]? = w.heap[b]?) (hsz : w.heap.size ≤ w'.heap.size)
    (hbl : ∀ b, b ∈ g'.bl → (b ∈ g.bl ∨ b ∈ gk.bl ∨ w.heap.size ≤ b) ∧ b < w'.heap.size)
    (hrv : ∀ {ok' : Nat → Prop} {v : Value} {a : AV}, Keeps (okOf gs os) ok' w w' → RV w (okOf gs os) gs v a → RV w' ok' (gs.set p g') v (f a))
    (hro : Keeps (okOf gs os) (okOf (gs.set p g') (((os.map (AO.via f p)).set p o').set k .dead)) w w' → RO base w' (okOf (gs.set p g') (((os.map (AO.via f p)).set p o').set k .dead)) (gs.set p g') g' o') :
    Rel base w' (gs.set p g') (env.mp f) (((os.map (AO.via f p)).set p o').set k .dead) tm := by
  have hnd := hlv.ne
  have hnk := hlk.ne
  have hpg : p < gs.length := (List.getElem?_eq_some_iff.1 hg).1
  have hpo : p < os.length := (List.getElem?_eq_some_iff.1 ho).1
  have hko : k < os.length := (List.getElem?_eq_some_iff.1 hok).1
  have gset : ∀ {i : Nat} {x : Gh}, (gs.set p g')[i]? = some x → (i = p ∧ x = g') ∨ (i ≠ p ∧ gs[i]? = some x) := by
    intro i x e
    rw [List.getElem?_set] at e
    split at e
    · subst_vars; simp at e; exact .inl ⟨rfl, e.symm⟩
    · exact .inr ⟨fun e' => by simp_all, e⟩
  -- an object of the new state that is there
  have oset : ∀ {i : Nat} {x : AO}, (((os.map (AO.via f p)).set p o').set k .dead)[i]? = some x → x ≠ .dead → i ≠ k ∧ ((i = p ∧ x = o') ∨ (i ≠ p ∧ ∃ y, os[i]? = some y ∧ x = y.via f p)) := by
    intro i x e hx
    rw [List.getElem?_set] at e
    split at e
    · subst_vars; simp [hko] at e; exact absurd e.symm hx
    · rename_i hik
      refine ⟨fun e' => hik e'.symm, ?_⟩
      rw [List.getElem?_set] at e
      split at e
      · subst_vars; simp [hpo] at e; exact .inl ⟨rfl, e.symm⟩
      · refine .inr ⟨fun e' => by simp_all, ?_⟩
        rw [List.getElem?_map] at e
        cases hy : os[i]? with
        | none => simp [hy] at e
        | some y => simp [hy] at e; exact ⟨y, rfl, e.symm⟩
  have kp : Keeps (okOf gs os) (okOf (gs.set p g') (((os.map (AO.via f p)).set p o').set k .dead)) w w' := by
    intro b hb hlt
    refine ⟨?_, hw b hlt (hb p g o hg ho hlv)⟩
    intro i x y hx hy hny hmem
    obtain ⟨hik, hy'⟩ := oset hy hny.ne
    rcases gset hx with ⟨rfl, rfl⟩ | ⟨hi, hx'⟩
    · rcases (hbl b hmem).1 with h1 | h1 | h1
      · exact hb i g o hg ho hlv h1
      · exact hb k gk ok hgk hok hlk h1
      · omega
    · rcases hy' with ⟨rfl, rfl⟩ | ⟨_, z, hz, rfl⟩
      · exact hi rfl
      · exact hb i x z hx' hz (AO.via_live.1 hny) hmem
  refine ⟨Nat.le_trans h.hb hsz, by simp [h.hl], h.hs, fun i => by rw [Env.lk_mp _ hf]; exact hrv kp (h.he i), ?_, ?_, ?_⟩
  · intro i x y hx hy
    by_cases hyd : y = .dead
    · subst hyd; trivial
    · obtain ⟨hik, hy'⟩ := oset hy hyd
      rcases gset hx with ⟨rfl, rfl⟩ | ⟨hi, hx'⟩
      · rcases hy' with ⟨_, rfl⟩ | ⟨hi, _⟩
        · exact hro kp
        · exact absurd rfl hi
      · rcases hy' with ⟨rfl, rfl⟩ | ⟨_, z, hz, rfl⟩
        · exact absurd rfl hi
        · have hz' := h.ho i x z hx' hz
          have same : z ≠ .dead → ∀ b, b ∈ x.bl → w'.heap[b]? = w.heap[b]? := fun hn b hb =>
            hw b (h.hn i x z hx' hz hn b hb).2 (h.hd i p x g z o hi hx' hg hz ho hn hnd b hb)
          cases z with
          | ob q => exact q.up (fun b hb => same (by simp) b hb) hz'
          | bx T avs =>
            obtain ⟨cs, h1, h2, h3, h4, h5, h6, h7⟩ := hz'
            exact ⟨cs, by rw [same (by simp) x.b (by simp [h3])]; exact h1, h2, h3, h4, by simpa using h5, h6, fun j => by rw [getD_map_f _ hf]; exact hrv kp (h7 j)⟩
          | keep n K =>
            obtain ⟨h1, h2, h3⟩ := hz'
            have hs : ∀ b, b ∈ x.bl → w'.heap[b]? = K.snap b := fun b hb => by rw [same (by simp) b hb]; exact h1 b hb
            simp only [AO.via]
            split
            · exact ⟨hs, rfl, fun i x hx => by simp at hx⟩
            · refine ⟨hs, h2, fun i y hy => ?_⟩
              have := (List.getElem?_eq_some_iff.1 hy).1
              rw [List.getElem?_set, if_neg (by omega)]
              exact h3 i y hy
          | dead => trivial
          | sli e xs =>
            obtain ⟨h1, h2, h3⟩ := hz'
            exact ⟨ownsRow_of_block h1 fun b hb => same (by simp) b (h3.mem hb), h2, h3⟩
          | slr e avs =>
            obtain ⟨vs, h1, h2, h3, h4⟩ := hz'
            exact ⟨vs, ownsRow_of_block h1 fun b hb => same (by simp) b (h4.mem hb), by simpa using h2, fun j => by rw [getD_map_f _ hf]; exact hrv kp (h3 j), h4⟩
          | sls e e2 xss =>
            obtain ⟨vs, bs, mb, h1, h2, h3, h4, h5, h6, h7, h8⟩ := hz'
            refine ⟨vs, bs, mb, ownsRow_of_block h1 fun b hb => same (by simp) b ?_, h2, h3, h4, fun i u hu => ?_, h6, h7, h8⟩
            · rw [h7]
              rcases h6 with ⟨h6, _⟩ | ⟨h6, h6'⟩
              · rw [h6] at hb; cases hb
              · rw [h6] at hb; cases hb; simp [h6']
            · obtain ⟨r1, r2, r3⟩ := h5 i u hu
              refine ⟨ownsRow_of_block r1 fun b hb => same (by simp) b ?_, r2, r3⟩
              rw [h7]
              refine List.mem_append.2 (.inr (List.mem_flatten.2 ⟨bs.getD i [], ?_, by rw [← r3, hb]; simp⟩))
              have hi : i < bs.length := by
                have := (List.getElem?_eq_some_iff.1 hu).1
                omega
              rw [List.getD_eq_getElem?_getD, List.getElem?_eq_getElem hi]
              simp
  · -- what p has now is apart from all others
    have apart : ∀ {j : Nat} {x : Gh} {z : AO}, j ≠ p → j ≠ k → gs[j]? = some x → os[j]? = some z → z ≠ .dead → ∀ b, b ∈ g'.bl → b ∉ x.bl := by
      intro j x z hjp hjk hx hz hzn b hb hb2
      rcases (hbl b hb).1 with h1 | h1 | h1
      · exact h.hd p j g x o z (fun e => hjp e.symm) hg hx ho hz hnd hzn b h1 hb2
      · exact h.hd k j gk x ok z (fun e => hjk e.symm) hgk hx hok hz hnk hzn b h1 hb2
      · have := (h.hn j x z hx hz hzn b hb2).2; omega
    intro i j g1 g2 o1 o2 hij hg1 hg2 ho1 ho2 hn1 hn2 b hb1 hb2
    obtain ⟨hik, ho1'⟩ := oset ho1 hn1
    obtain ⟨hjk, ho2'⟩ := oset ho2 hn2
    rcases gset hg1 with ⟨rfl, rfl⟩ | ⟨hi, hg1'⟩
    · rcases gset hg2 with ⟨rfl, _⟩ | ⟨hj, hg2'⟩
      · exact hij rfl
      · rcases ho2' with ⟨rfl, _⟩ | ⟨_, z, hz, rfl⟩
        · exact hij rfl
        · exact apart hj hjk hg2' hz (fun e => hn2 (AO.via_dead.2 e)) b hb1 hb2
    · rcases ho1' with ⟨rfl, _⟩ | ⟨_, z, hz, rfl⟩
      · exact absurd rfl hi
      · have hzn : z ≠ .dead := fun e => hn1 (AO.via_dead.2 e)
        rcases gset hg2 with ⟨rfl, rfl⟩ | ⟨hj, hg2'⟩
        · exact apart hi hik hg1' hz hzn b hb2 hb1
        · rcases ho2' with ⟨rfl, _⟩ | ⟨_, y, hy, rfl⟩
          · exact absurd rfl hj
          · exact h.hd i j g1 g2 z y hij hg1' hg2' hz hy hzn (fun e => hn2 (AO.via_dead.2 e)) b hb1 hb2
  · intro i x y hx hy hny b hb
    obtain ⟨hik, hy'⟩ := oset hy hny
    rcases gset hx with ⟨rfl, rfl⟩ | ⟨hi, hx'⟩
    · have := hbl b hb
      refine ⟨?_, this.2⟩
      rcases this.1 with h1 | h1 | h1
      · exact (h.hn i g o hg ho hnd b h1).1
      · exact (h.hn k gk ok hgk hok hnk b h1).1
      · exact Nat.le_trans h.hb h1
    · rcases hy' with ⟨rfl, rfl⟩ | ⟨_, z, hz, rfl⟩
      · exact absurd rfl hi
      · have := h.hn i x z hx' hz (fun e => hny (AO.via_dead.2 e)) b hb
        exact ⟨this.1, Nat.lt_of_lt_of_le this.2 hsz⟩

theorem flatten_set {bs : List (List Nat)} {i : Nat} (c : List Nat) (hi : i < bs.length) : (bs.set i c).flatten = (bs.take i).flatten ++ (c ++ (bs.drop (i + 1)).flatten) := by
  rw [List.set_eq_take_append_cons_drop, if_pos hi, List.flatten_append, List.flatten_cons]
theorem flatten_at {bs : List (List Nat)} {i : Nat} (hi : i < bs.length) : bs.flatten = (bs.take i).flatten ++ (bs.getD i [] ++ (bs.drop (i + 1)).flatten) := by
  have h := flatten_set (bs.getD i []) hi
  rw [← h]
  congr 1
  apply List.ext_getElem?
  intro j
  rw [List.getElem?_set]
  split
  · subst_vars; simp [hi]
  · rfl
theorem nodup_swap {mb A B D c : List Nat} (h : (mb ++ (A ++ (B ++ D))).Nodup) (hc : c.Nodup) (hd : ∀ b, b ∈ c → b ∉ mb ++ (A ++ (B ++ D))) : (mb ++ (A ++ (c ++ D))).Nodup := by
  simp only [List.nodup_append, List.mem_append] at *
  obtain ⟨h1, ⟨h2, ⟨h3, h4, h5⟩, h6⟩, h7⟩ := h
  refine ⟨h1, ⟨h2, ⟨hc, h4, ?_⟩, ?_⟩, ?_⟩
  · intro a ha b hb e
    subst e
    exact hd a ha (.inr (.inr (.inr hb)))
  · intro a ha b hb e
    subst e
    rcases hb with hb | hb
    · exact hd a hb (.inr (.inl ha))
    · exact h6 a ha a (.inr hb) rfl
  · intro a ha b hb e
    subst e
    rcases hb with hb | hb | hb
    · exact h7 a ha a (.inl hb) rfl
    · exact hd a hb (.inl ha)
    · exact h7 a ha a (.inr (.inr hb)) rfl

section
variable {P : Program} {env : Env} {os : List AO} {d : Option Tmp} {ty : TypeId} {pos : String} {af : Array Edge} {g : Option (Nat × Bool)}

theorem GB.list {g : Gh} (h : GB g) : g.v.ownBlock.toList = g.bl := by
  rcases h with ⟨h1, h2⟩ | ⟨h1, h2⟩
  · rw [h1, h2]; rfl
  · rw [h1, h2]; rfl
theorem GB.nodup {g : Gh} (h : GB g) : g.bl.Nodup := by
  rcases h with ⟨_, h2⟩ | ⟨_, h2⟩ <;> rw [h2] <;> simp

/-- A row goes into a cell. -/
theorem l_store_row {t : TypeId} [ht : TCell P t] {x y : Operand} {h i k : Nat} {e e2 e3 : TypeId} {xss : List (List Int)} {ys : List Int} (hx : AV.ev env x = .optr h i) (hs : os[h]? = some (.sls e e2 xss)) (hi : i < xss.length) (hy : AV.ev env y = .own k) (hk : os[k]? = some (.sli e3 ys)) (he : e3 = e2)
    (hhk : (h == k) = false) :
    LOp P ⟨d, .store t x y, ty, pos, af, g⟩ env os .any (env.mp (AV.noRow h)) (((os.map (AO.via (AV.noRow h) h)).set h (.sls e e2 (xss.set i ys))).set k .dead) := by
  subst he
  have hne : h ≠ k := by simpa using hhk
  intro base w gs tm hr
  have hxv := hr.ev x
  have hyv := hr.ev y
  rw [hx] at hxv
  rw [hy] at hyv
  generalize hv : Act.eval ⟨tm, []⟩ x = v at hxv
  generalize hu : Act.eval ⟨tm, []⟩ y = u at hyv
  cases hxv with
  | @optr _ _ gh hg =>
  cases hyv with
  | @own _ gk hgk =>
    obtain ⟨vs, bs, mb, a1, a2, a3, a4, a5, a6, a7, a8⟩ := hr.ho _ _ _ hg hs
    obtain ⟨b1, b2, b3⟩ := hr.ho _ _ _ hgk hk
    have hiv : i < vs.length := by omega
    have hib : i < bs.length := by omega
    obtain ⟨b, cap, e1, e2', e3', e4⟩ := own_slice a1 (i := i) hiv
    have emb : mb = [gh.b] ∧ gh.v.ownBlock = some gh.b := by
      rcases a6 with ⟨c1, _⟩ | ⟨c1, c2⟩
      · rw [c1] at e2'; cases e2'
      · exact ⟨c2, c1⟩
    have eb : gh.b = b := by rw [emb.2] at e2'; exact Option.some.inj e2'
    have hcell : w.cell? ⟨gh.b, i, none⟩ = some vs[i] := by rw [eb, e3']; simp [hiv]
    obtain ⟨ua, uc, eu⟩ := ownsRow_slice b1
    have a1' := a1
    rw [e1] at a1'
    have hst := a1'.stored i gk.v
    have hother : ∀ c, c < w.heap.size → c ∉ gh.bl → (w.setCell ⟨b, i, none⟩ gk.v).heap[c]? = w.heap[c]? := fun c hc hcb => hst.2.block c hc (fun e' => hcb (by rw [a7, emb.1, eb]; simp [Option.some.inj e']))
    have hgb : gh.b ∈ gh.bl := by rw [a7, emb.1]; simp
    have hdis : ∀ c, c ∈ gk.bl → c ∉ gh.bl := hr.hd k h gk gh _ _ (fun e => hne e.symm) hgk hg hk hs (by simp) (by simp)
    have hap : ∀ c, c ≠ gh.b → (w.setCell ⟨b, i, none⟩ gk.v).heap[c]? = w.heap[c]? := fun c hc => heap_setCell_other w ⟨b, i, none⟩ c gk.v (fun e' => hc (by rw [eb]; exact e'))
    let g' : Gh := ⟨gh.v, gh.b, mb ++ (bs.set i gk.bl).flatten, vs.set i gk.v⟩
    have hhg : h < gs.length := (List.getElem?_eq_some_iff.1 hg).1
    have sv : SameV h gs (gs.set h g') := by
      refine ⟨fun j z hj hz => ?_, fun z hz => ⟨g', by simp [hhg], ?_⟩⟩
      · rw [List.getElem?_set, if_neg (fun e => hj e.symm)]; exact hz
      · rw [hg] at hz; cases hz; exact ⟨rfl, rfl⟩
    refine ⟨undef, w.setCell ⟨b, i, none⟩ gk.v, gs.set h g', .inr ⟨?_, rfl⟩, hr.absorb hg hs trivial hgk hk trivial hne g' _ (AV.noRow h) rfl hother hst.2.size ?_ (fun kp hv => hv.noRow kp sv) ?_, .any _, ?_⟩
    · have := run_store_cell (P := P) (t := t) (a := ⟨gh.b, i, none⟩) hcell (by rw [eb]; exact e4) (v := gk.v) (by rw [eu]; rfl) (by rw [eu]; rfl)
      rw [eb] at this hv
      simp only [execOp, hv, hu, Sem.run_bind, this, Result.andThen_ok, Sem.run_pure]
    · intro c hc
      have hc' : c ∈ mb ∨ c ∈ (bs.set i gk.bl).flatten := List.mem_append.1 hc
      have key : c ∈ gh.bl ∨ c ∈ gk.bl := by
        rcases hc' with hc' | hc'
        · left; rw [a7]; exact List.mem_append.2 (.inl hc')
        · rw [flatten_set _ hib] at hc'
          rcases List.mem_append.1 hc' with hc' | hc'
          · left; rw [a7, flatten_at hib]; simp [hc']
          · rcases List.mem_append.1 hc' with hc' | hc'
            · right; exact hc'
            · left; rw [a7, flatten_at hib]; simp [hc']
      refine ⟨?_, ?_⟩
      · rcases key with key | key
        · exact .inl key
        · exact .inr (.inl key)
      · rcases key with key | key
        · have := (hr.hn _ _ _ hg hs (by simp) c key).2
          exact Nat.lt_of_lt_of_le this hst.2.size
        · have := (hr.hn _ _ _ hgk hk (by simp) c key).2
          exact Nat.lt_of_lt_of_le this hst.2.size
    · intro kp
      refine ⟨vs.set i gk.v, bs.set i gk.bl, mb, ?_, by simp [a2], by simp [a3], rfl, fun j u hj => ?_, ?_, rfl, ?_⟩
      · rw [List.length_set, e1]; exact hst.1
      · rw [List.getElem?_set] at hj
        have egd : (xss.set i ys).getD j [] = if j = i then ys else xss.getD j [] := by
          simp only [List.getD_eq_getElem?_getD, List.getElem?_set]
          by_cases e : i = j
          · subst e; simp [hi]
          · have e' : ¬ j = i := fun h => e h.symm
            simp [e, e']
        have egb : (bs.set i gk.bl).getD j [] = if j = i then gk.bl else bs.getD j [] := by
          simp only [List.getD_eq_getElem?_getD, List.getElem?_set]
          by_cases e : i = j
          · subst e; simp [hib]
          · have e' : ¬ j = i := fun h => e h.symm
            simp [e, e']
        rw [egd, egb]
        split at hj
        · subst_vars
          cases hj
          simp only [if_true]
          exact ⟨ownsRow_of_block b1 fun c hc => hap c fun e => hdis c (b3.mem hc) (by rw [e]; exact hgb), b2, b3.list⟩
        · rename_i hij
          have hij' : ¬ j = i := fun e => hij e.symm
          simp only [hij', if_false]
          obtain ⟨r1, r2, r3⟩ := a5 j u hj
          refine ⟨ownsRow_of_block r1 fun c hc => hap c fun e => ?_, r2, r3⟩
          -- a row's block is not the outer one
          have hjb : j < bs.length := by
            have := (List.getElem?_eq_some_iff.1 hj).1
            omega
          have hcm : c ∈ bs.flatten := List.mem_flatten.2 ⟨bs.getD j [], by rw [List.getD_eq_getElem?_getD, List.getElem?_eq_getElem hjb]; simp, by rw [← r3, hc]; simp⟩
          rw [a7, emb.1] at a8
          have := (List.nodup_cons.1 a8).1
          rw [← e] at this
          exact this hcm
      · exact .inr ⟨emb.2, emb.1⟩
      · show (mb ++ (bs.set i gk.bl).flatten).Nodup
        rw [flatten_set _ hib]
        rw [a7, flatten_at hib] at a8
        refine nodup_swap a8 b3.nodup fun c hc => ?_
        have := hdis c hc
        rwa [a7, flatten_at hib] at this
    · have hbb : base ≤ b := by rw [← eb]; exact (hr.hn _ _ _ hg hs (by simp) gh.b hgb).1
      exact (Below.refl _ _).setCell (p := ⟨b, i, none⟩) hbb _
end
end Go.Proofs.YtfgnccoaebkckaaDoor
