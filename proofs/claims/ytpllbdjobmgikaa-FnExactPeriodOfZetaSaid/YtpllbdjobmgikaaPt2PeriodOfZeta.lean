/-
  Parts of the proof, one behind the other: contracts of functions and plain laws. No condition.
-/
import Derived.Lib.SliceRun
import Derived.Test.YtpllbdjobmgikaaPt1PeriodOfZeta
/-
  The call's own slices of rows: a row goes in, by a store or by an append; a row's cell is written. No condition.
-/
namespace Go.Proofs.Ytpllbdjobmgikaa
open Go Go.RowKit

/-- The rows of handle 'h' are no more named. -/
def AV.noRow1 (h : Nat) : AV → AV
  | .orow k i => if k = h then .any else .orow k i
  | .orptr k i j => if k = h then .any else .orptr k i j
  | .agg _ => .any
  | .tup _ => .any
  | a => a
def AV.noRow (h : Nat) : AV → AV
  | .orow k i => if k = h then .any else .orow k i
  | .orptr k i j => if k = h then .any else .orptr k i j
  | .agg l => .agg (l.map (AV.noRow1 h))
  | .tup l => .tup (l.map (AV.noRow1 h))
  | a => a

def AO.via (f : AV → AV) (p : Nat) : AO → AO
  | .bx T avs => .bx T (avs.map f)
  | .slr e avs => .slr e (avs.map f)
  | .keep n K => if p < n then .keep 0 ⟨K.snap, []⟩ else .keep n K
  | o => o
theorem AO.via_dead {f : AV → AV} {p : Nat} {o : AO} : o.via f p = .dead ↔ o = .dead := by cases o <;> simp [AO.via]; split <;> simp
theorem AO.via_live {f : AV → AV} {p : Nat} {o : AO} : (o.via f p).live ↔ o.live := by
  cases o with
  | keep n K => simp only [AO.via]; split <;> exact Iff.rfl
  | _ => exact Iff.rfl

/-- Ghosts other than p stay; that of p keeps its value. -/
structure SameV (p : Nat) (gs gs' : List Gh) : Prop where
  other : ∀ (k : Nat) g, k ≠ p → gs[k]? = some g → gs'[k]? = some g
  same : ∀ g, gs[p]? = some g → ∃ g', gs'[p]? = some g' ∧ g'.v = g.v ∧ g'.b = g.b

section
variable {w w' : World} {ok ok' : Nat → Prop} {gs gs' : List Gh} {p : Nat}

theorem SameV.own (s : SameV p gs gs') {h : Nat} {g : Gh} (hg : gs[h]? = some g) : ∃ g', gs'[h]? = some g' ∧ g'.v = g.v ∧ g'.b = g.b := by
  by_cases e : h = p
  · subst e; exact s.same g hg
  · exact ⟨g, s.other h g e hg, rfl, rfl⟩

theorem RV.noRow1 (k : Keeps ok ok' w w') (s : SameV p gs gs') {v : Value} {a : AV} (hv : RV w ok gs v a) : RV w' ok' gs' v (a.noRow1 p) := by
  cases hv with
  | any v => exact .any v
  | val v => exact .val v
  | ints h => exact .ints (h.mono k)
  | intss h => exact .intss (h.mono k)
  | @ro v r h => exact .ro (r.up k h)
  | iptr h h1 h2 => exact .iptr (h.mono k) h1 h2
  | iiptr h h1 h2 => exact .iiptr (h.mono k) h1 h2
  | own h1 =>
    obtain ⟨g', a1, a2, _⟩ := s.own h1
    rw [← a2]; exact .own a1
  | optr h1 =>
    obtain ⟨g', a1, _, a3⟩ := s.own h1
    rw [← a3]; exact .optr a1
  | osub h1 h2 h3 h4 =>
    obtain ⟨g', a1, _, a3⟩ := s.own h1
    exact .osub a1 (fun hp => by rw [a3]; exact h2 hp) h3 h4
  | @orow j i g v h1 h2 =>
    simp only [AV.noRow1]; split
    · exact .any _
    · exact .orow (s.other _ _ ‹_› h1) h2
  | @orptr j i n blk m c g h1 h2 =>
    simp only [AV.noRow1]; split
    · exact .any _
    · exact .orptr (s.other _ _ ‹_› h1) h2
  | agg _ _ _ => exact .any _
  | tup _ _ => exact .any _

theorem RV.noRow (k : Keeps ok ok' w w') (s : SameV p gs gs') {v : Value} {a : AV} (hv : RV w ok gs v a) : RV w' ok' gs' v (a.noRow p) := by
  cases hv with
  | any v => exact .any v
  | val v => exact .val v
  | ints h => exact .ints (h.mono k)
  | intss h => exact .intss (h.mono k)
  | @ro v r h => exact .ro (r.up k h)
  | iptr h h1 h2 => exact .iptr (h.mono k) h1 h2
  | iiptr h h1 h2 => exact .iiptr (h.mono k) h1 h2
  | own h1 =>
    obtain ⟨g', a1, a2, _⟩ := s.own h1
    rw [← a2]; exact .own a1
  | optr h1 =>
    obtain ⟨g', a1, _, a3⟩ := s.own h1
    rw [← a3]; exact .optr a1
  | osub h1 h2 h3 h4 =>
    obtain ⟨g', a1, _, a3⟩ := s.own h1
    exact .osub a1 (fun hp => by rw [a3]; exact h2 hp) h3 h4
  | @orow j i g v h1 h2 =>
    simp only [AV.noRow]; split
    · exact .any _
    · exact .orow (s.other _ _ ‹_› h1) h2
  | @orptr j i n blk m c g h1 h2 =>
    simp only [AV.noRow]; split
    · exact .any _
    · exact .orptr (s.other _ _ ‹_› h1) h2
  | agg h1 h3 h2 => exact .agg (by simpa using h1) h3 fun i => by rw [getD_map_f _ rfl]; exact (h2 i).noRow1 k s
  | tup h1 h2 => exact .tup (by simpa using h1) fun i => by rw [getD_map_f _ rfl]; exact (h2 i).noRow1 k s
end

/-- Object 'p' takes the blocks of object 'k', which is no more. -/
theorem Rel.absorb {base : Nat} {w w' : World} {gs : List Gh} {env : Env} {os : List AO} {tm : Array Value} (h : Rel base w gs env os tm) {p k : Nat} {g gk : Gh} {o ok : AO} (hg : gs[p]? = some g) (ho : os[p]? = some o) (hlv : o.live)
    (hgk : gs[k]? = some gk) (hok : os[k]? = some ok) (hlk : ok.live) (hpk : p ≠ k) (g' : Gh) (o' : AO) (f : AV → AV) (hf : f .any = .any)
    (hw : ∀ b, b < w.heap.size → b ∉ g.bl → w'.heap[b]? = w.heap[b]?) (hsz : w.heap.size ≤ w'.heap.size)
    (hbl : ∀ b, b ∈ g'.bl → (b ∈ g.bl ∨ b ∈ gk.bl ∨ w.heap.size ≤ b) ∧ b < w'.heap.size)
    (hrv : ∀ {ok' : Nat → Prop} {v : Value} {a : AV}, Keeps (okOf gs os) ok' w w' → RV w (okOf gs os) gs v a → RV w' ok' (gs.set p g') v (f a))
    (hro : Keeps (okOf gs os) (okOf (gs.set p g') (((os.map (AO.via f p)).set p o').set k .dead)) w w' → RO base w' (okOf (gs.set p g') (((os.map (AO.via f p)).set p o').set k .dead)) (gs.set p g') g' o') :
    Rel base w' (gs.set p g') (env.mp f) (((os.map (AO.via f p)).set p o').set k .dead) tm := by
  have hnd := hlv.ne
  have hnk := hlk.ne
  have hpg : p < gs.length := (List.getElem?_eq_some_iff.1 hg).1
  have hpo : p < os.length := (List.getElem?_eq_some_iff.1 ho).1
  have hko : k < os.length := (List.getElem?_eq_some_iff.1 hok).1
  have gset : ∀ {i : Nat} {x : Gh}, (gs.set p g')[i]? = some x → (i = p ∧ x = g') ∨ (i ≠ p ∧ gs[i]? = some x) := by
    intro i x e
    rw [List.getElem?_set] at e
    split at e
    · subst_vars; simp at e; exact .inl ⟨rfl, e.symm⟩
    · exact .inr ⟨fun e' => by simp_all, e⟩
  -- an object of the new state that is there
  have oset : ∀ {i : Nat} {x : AO}, (((os.map (AO.via f p)).set p o').set k .dead)[i]? = some x → x ≠ .dead → i ≠ k ∧ ((i = p ∧ x = o') ∨ (i ≠ p ∧ ∃ y, os[i]? = some y ∧ x = y.via f p)) := by
    intro i x e hx
    rw [List.getElem?_set] at e
    split at e
    · subst_vars; simp [hko] at e; exact absurd e.symm hx
    · rename_i hik
      refine ⟨fun e' => hik e'.symm, ?_⟩
      rw [List.getElem?_set] at e
      split at e
      · subst_vars; simp [hpo] at e; exact .inl ⟨rfl, e.symm⟩
      · refine .inr ⟨fun e' => by simp_all, ?_⟩
        rw [List.getElem?_map] at e
        cases hy : os[i]? with
        | none => simp [hy] at e
        | some y => simp [hy] at e; exact ⟨y, rfl, e.symm⟩
  have kp : Keeps (okOf gs os) (okOf (gs.set p g') (((os.map (AO.via f p)).set p o').set k .dead)) w w' := by
    intro b hb hlt
    refine ⟨?_, hw b hlt (hb p g o hg ho hlv)⟩
    intro i x y hx hy hny hmem
    obtain ⟨hik, hy'⟩ := oset hy hny.ne
    rcases gset hx with ⟨rfl, rfl⟩ | ⟨hi, hx'⟩
    · rcases (hbl b hmem).1 with h1 | h1 | h1
      · exact hb i g o hg ho hlv h1
      · exact hb k gk ok hgk hok hlk h1
      · omega
    · rcases hy' with ⟨rfl, rfl⟩ | ⟨_, z, hz, rfl⟩
      · exact hi rfl
      · exact hb i x z hx' hz (AO.via_live.1 hny) hmem
  refine ⟨Nat.le_trans h.hb hsz, by simp [h.hl], h.hs, fun i => by rw [Env.lk_mp _ hf]; exact hrv kp (h.he i), ?_, ?_, ?_⟩
  · intro i x y hx hy
    by_cases hyd : y = .dead
    · subst hyd; trivial
    · obtain ⟨hik, hy'⟩ := oset hy hyd
      rcases gset hx with ⟨rfl, rfl⟩ | ⟨hi, hx'⟩
      · rcases hy' with ⟨_, rfl⟩ | ⟨hi, _⟩
        · exact hro kp
        · exact absurd rfl hi
      · rcases hy' with ⟨rfl, rfl⟩ | ⟨_, z, hz, rfl⟩
        · exact absurd rfl hi
        · have hz' := h.ho i x z hx' hz
          have same : z ≠ .dead → ∀ b, b ∈ x.bl → w'.heap[b]? = w.heap[b]? := fun hn b hb =>
            hw b (h.hn i x z hx' hz hn b hb).2 (h.hd i p x g z o hi hx' hg hz ho hn hnd b hb)
          cases z with
          | ob q => exact q.up (fun b hb => same (by simp) b hb) hz'
          | bx T avs =>
            obtain ⟨cs, h1, h2, h3, h4, h5, h6, h7⟩ := hz'
            exact ⟨cs, by rw [same (by simp) x.b (by simp [h3])]; exact h1, h2, h3, h4, by simpa using h5, h6, fun j => by rw [getD_map_f _ hf]; exact hrv kp (h7 j)⟩
          | keep n K =>
            obtain ⟨h1, h2, h3⟩ := hz'
            have hs : ∀ b, b ∈ x.bl → w'.heap[b]? = K.snap b := fun b hb => by rw [same (by simp) b hb]; exact h1 b hb
            simp only [AO.via]
            split
            · exact ⟨hs, rfl, fun i x hx => by simp at hx⟩
            · refine ⟨hs, h2, fun i y hy => ?_⟩
              have := (List.getElem?_eq_some_iff.1 hy).1
              rw [List.getElem?_set, if_neg (by omega)]
              exact h3 i y hy
          | dead => trivial
          | sli e xs =>
            obtain ⟨h1, h2, h3⟩ := hz'
            exact ⟨ownsRow_of_block h1 fun b hb => same (by simp) b (h3.mem hb), h2, h3⟩
          | slr e avs =>
            obtain ⟨vs, h1, h2, h3, h4⟩ := hz'
            exact ⟨vs, ownsRow_of_block h1 fun b hb => same (by simp) b (h4.mem hb), by simpa using h2, fun j => by rw [getD_map_f _ hf]; exact hrv kp (h3 j), h4⟩
          | sls e e2 xss =>
            obtain ⟨vs, bs, mb, h1, h2, h3, h4, h5, h6, h7, h8⟩ := hz'
            refine ⟨vs, bs, mb, ownsRow_of_block h1 fun b hb => same (by simp) b ?_, h2, h3, h4, fun i u hu => ?_, h6, h7, h8⟩
            · rw [h7]
              rcases h6 with ⟨h6, _⟩ | ⟨h6, h6'⟩
              · rw [h6] at hb; cases hb
              · rw [h6] at hb; cases hb; simp [h6']
            · obtain ⟨r1, r2, r3⟩ := h5 i u hu
              refine ⟨ownsRow_of_block r1 fun b hb => same (by simp) b ?_, r2, r3⟩
              rw [h7]
              refine List.mem_append.2 (.inr (List.mem_flatten.2 ⟨bs.getD i [], ?_, by rw [← r3, hb]; simp⟩))
              have hi : i < bs.length := by
                have := (List.getElem?_eq_some_iff.1 hu).1
                omega
              rw [List.getD_eq_getElem?_getD, List.getElem?_eq_getElem hi]
              simp
  · -- what p has now is apart from all others
    have apart : ∀ {j : Nat} {x : Gh} {z : AO}, j ≠ p → j ≠ k → gs[j]? = some x → os[j]? = some z → z ≠ .dead → ∀ b, b ∈ g'.bl → b ∉ x.bl := by
      intro j x z hjp hjk hx hz hzn b hb hb2
      rcases (hbl b hb).1 with h1 | h1 | h1
      · exact h.hd p j g x o z (fun e => hjp e.symm) hg hx ho hz hnd hzn b h1 hb2
      · exact h.hd k j gk x ok z (fun e => hjk e.symm) hgk hx hok hz hnk hzn b h1 hb2
      · have := (h.hn j x z hx hz hzn b hb2).2; omega
    intro i j g1 g2 o1 o2 hij hg1 hg2 ho1 ho2 hn1 hn2 b hb1 hb2
    obtain ⟨hik, ho1'⟩ := oset ho1 hn1
    obtain ⟨hjk, ho2'⟩ := oset ho2 hn2
    rcases gset hg1 with ⟨rfl, rfl⟩ | ⟨hi, hg1'⟩
    · rcases gset hg2 with ⟨rfl, _⟩ | ⟨hj, hg2'⟩
      · exact hij rfl
      · rcases ho2' with ⟨rfl, _⟩ | ⟨_, z, hz, rfl⟩
        · exact hij rfl
        · exact apart hj hjk hg2' hz (fun e => hn2 (AO.via_dead.2 e)) b hb1 hb2
    · rcases ho1' with ⟨rfl, _⟩ | ⟨_, z, hz, rfl⟩
      · exact absurd rfl hi
      · have hzn : z ≠ .dead := fun e => hn1 (AO.via_dead.2 e)
        rcases gset hg2 with ⟨rfl, rfl⟩ | ⟨hj, hg2'⟩
        · exact apart hi hik hg1' hz hzn b hb2 hb1
        · rcases ho2' with ⟨rfl, _⟩ | ⟨_, y, hy, rfl⟩
          · exact absurd rfl hj
          · exact h.hd i j g1 g2 z y hij hg1' hg2' hz hy hzn (fun e => hn2 (AO.via_dead.2 e)) b hb1 hb2
  · intro i x y hx hy hny b hb
    obtain ⟨hik, hy'⟩ := oset hy hny
    rcases gset hx with ⟨rfl, rfl⟩ | ⟨hi, hx'⟩
    · have := hbl b hb
      refine ⟨?_, this.2⟩
      rcases this.1 with h1 | h1 | h1
      · exact (h.hn i g o hg ho hnd b h1).1
      · exact (h.hn k gk ok hgk hok hnk b h1).1
      · exact Nat.le_trans h.hb h1
    · rcases hy' with ⟨rfl, rfl⟩ | ⟨_, z, hz, rfl⟩
      · exact absurd rfl hi
      · have := h.hn i x z hx' hz (fun e => hny (AO.via_dead.2 e)) b hb
        exact ⟨this.1, Nat.lt_of_lt_of_le this.2 hsz⟩

theorem flatten_set {bs : List (List Nat)} {i : Nat} (c : List Nat) (hi : i < bs.length) : (bs.set i c).flatten = (bs.take i).flatten ++ (c ++ (bs.drop (i + 1)).flatten) := by
  rw [List.set_eq_take_append_cons_drop, if_pos hi, List.flatten_append, List.flatten_cons]
theorem flatten_at {bs : List (List Nat)} {i : Nat} (hi : i < bs.length) : bs.flatten = (bs.take i).flatten ++ (bs.getD i [] ++ (bs.drop (i + 1)).flatten) := by
  have h := flatten_set (bs.getD i []) hi
  rw [← h]
  congr 1
  apply List.ext_getElem?
  intro j
  rw [List.getElem?_set]
  split
  · subst_vars; simp [hi]
  · rfl
theorem nodup_swap {mb A B D c : List Nat} (h : (mb ++ (A ++ (B ++ D))).Nodup) (hc : c.Nodup) (hd : ∀ b, b ∈ c → b ∉ mb ++ (A ++ (B ++ D))) : (mb ++ (A ++ (c ++ D))).Nodup := by
  simp only [List.nodup_append, List.mem_append] at *
  obtain ⟨h1, ⟨h2, ⟨h3, h4, h5⟩, h6⟩, h7⟩ := h
  refine ⟨h1, ⟨h2, ⟨hc, h4, ?_⟩, ?_⟩, ?_⟩
  · intro a ha b hb e
    subst e
    exact hd a ha (.inr (.inr (.inr hb)))
  · intro a ha b hb e
    subst e
    rcases hb with hb | hb
    · exact hd a hb (.inr (.inl ha))
    · exact h6 a ha a (.inr hb) rfl
  · intro a ha b hb e
    subst e
    rcases hb with hb | hb | hb
    · exact h7 a ha a (.inl hb) rfl
    · exact hd a hb (.inl ha)
    · exact h7 a ha a (.inr (.inr hb)) rfl

section
variable {P : Program} {env : Env} {os : List AO} {d : Option Tmp} {ty : TypeId} {pos : String} {af : Array Edge} {g : Option (Nat × Bool)}

theorem GB.list {g : Gh} (h : GB g) : g.v.ownBlock.toList = g.bl := by
  rcases h with ⟨h1, h2⟩ | ⟨h1, h2⟩
  · rw [h1, h2]; rfl
  · rw [h1, h2]; rfl
theorem GB.nodup {g : Gh} (h : GB g) : g.bl.Nodup := by
  rcases h with ⟨_, h2⟩ | ⟨_, h2⟩ <;> rw [h2] <;> simp

/-- A row goes into a cell. -/
theorem l_store_row {t : TypeId} [ht : TCell P t] {x y : Operand} {h i k : Nat} {e e2 e3 : TypeId} {xss : List (List Int)} {ys : List Int} (hx : AV.ev env x = .optr h i) (hs : os[h]? = some (.sls e e2 xss)) (hi : i < xss.length) (hy : AV.ev env y = .own k) (hk : os[k]? = some (.sli e3 ys)) (he : e3 = e2)
    (hhk : (h == k) = false) :
    LOp P ⟨d, .store t x y, ty, pos, af, g⟩ env os .any (env.mp (AV.noRow h)) (((os.map (AO.via (AV.noRow h) h)).set h (.sls e e2 (xss.set i ys))).set k .dead) := by
  subst he
  have hne : h ≠ k := by simpa using hhk
  intro base w gs tm hr
  have hxv := hr.ev x
  have hyv := hr.ev y
  rw [hx] at hxv
  rw [hy] at hyv
  generalize hv : Act.eval ⟨tm, []⟩ x = v at hxv
  generalize hu : Act.eval ⟨tm, []⟩ y = u at hyv
  cases hxv with
  | @optr _ _ gh hg =>
  cases hyv with
  | @own _ gk hgk =>
    obtain ⟨vs, bs, mb, a1, a2, a3, a4, a5, a6, a7, a8⟩ := hr.ho _ _ _ hg hs
    obtain ⟨b1, b2, b3⟩ := hr.ho _ _ _ hgk hk
    have hiv : i < vs.length := by omega
    have hib : i < bs.length := by omega
    obtain ⟨b, cap, e1, e2', e3', e4⟩ := own_slice a1 (i := i) hiv
    have emb : mb = [gh.b] ∧ gh.v.ownBlock = some gh.b := by
      rcases a6 with ⟨c1, _⟩ | ⟨c1, c2⟩
      · rw [c1] at e2'; cases e2'
      · exact ⟨c2, c1⟩
    have eb : gh.b = b := by rw [emb.2] at e2'; exact Option.some.inj e2'
    have hcell : w.cell? ⟨gh.b, i, none⟩ = some vs[i] := by rw [eb, e3']; simp [hiv]
    obtain ⟨ua, uc, eu⟩ := ownsRow_slice b1
    have a1' := a1
    rw [e1] at a1'
    have hst := a1'.stored i gk.v
    have hother : ∀ c, c < w.heap.size → c ∉ gh.bl → (w.setCell ⟨b, i, none⟩ gk.v).heap[c]? = w.heap[c]? := fun c hc hcb => hst.2.block c hc (fun e' => hcb (by rw [a7, emb.1, eb]; simp [Option.some.inj e']))
    have hgb : gh.b ∈ gh.bl := by rw [a7, emb.1]; simp
    have hdis : ∀ c, c ∈ gk.bl → c ∉ gh.bl := hr.hd k h gk gh _ _ (fun e => hne e.symm) hgk hg hk hs (by simp) (by simp)
    have hap : ∀ c, c ≠ gh.b → (w.setCell ⟨b, i, none⟩ gk.v).heap[c]? = w.heap[c]? := fun c hc => heap_setCell_other w ⟨b, i, none⟩ c gk.v (fun e' => hc (by rw [eb]; exact e'))
    let g' : Gh := ⟨gh.v, gh.b, mb ++ (bs.set i gk.bl).flatten, vs.set i gk.v⟩
    have hhg : h < gs.length := (List.getElem?_eq_some_iff.1 hg).1
    have sv : SameV h gs (gs.set h g') := by
      refine ⟨fun j z hj hz => ?_, fun z hz => ⟨g', by simp [hhg], ?_⟩⟩
      · rw [List.getElem?_set, if_neg (fun e => hj e.symm)]; exact hz
      · rw [hg] at hz; cases hz; exact ⟨rfl, rfl⟩
    refine ⟨undef, w.setCell ⟨b, i, none⟩ gk.v, gs.set h g', .inr ⟨?_, rfl⟩, hr.absorb hg hs trivial hgk hk trivial hne g' _ (AV.noRow h) rfl hother hst.2.size ?_ (fun kp hv => hv.noRow kp sv) ?_, .any _, ?_⟩
    · have := run_store_cell (P := P) (t := t) (a := ⟨gh.b, i, none⟩) hcell (by rw [eb]; exact e4) (v := gk.v) (by rw [eu]; rfl) (by rw [eu]; rfl)
      rw [eb] at this hv
      simp only [execOp, hv, hu, Sem.run_bind, this, Result.andThen_ok, Sem.run_pure]
    · intro c hc
      have hc' : c ∈ mb ∨ c ∈ (bs.set i gk.bl).flatten := List.mem_append.1 hc
      have key : c ∈ gh.bl ∨ c ∈ gk.bl := by
        rcases hc' with hc' | hc'
        · left; rw [a7]; exact List.mem_append.2 (.inl hc')
        · rw [flatten_set _ hib] at hc'
          rcases List.mem_append.1 hc' with hc' | hc'
          · left; rw [a7, flatten_at hib]; simp [hc']
          · rcases List.mem_append.1 hc' with hc' | hc'
            · right; exact hc'
            · left; rw [a7, flatten_at hib]; simp [hc']
      refine ⟨?_, ?_⟩
      · rcases key with key | key
        · exact .inl key
        · exact .inr (.inl key)
      · rcases key with key | key
        · have := (hr.hn _ _ _ hg hs (by simp) c key).2
          exact Nat.lt_of_lt_of_le this hst.2.size
        · have := (hr.hn _ _ _ hgk hk (by simp) c key).2
          exact Nat.lt_of_lt_of_le this hst.2.size
    · intro kp
      refine ⟨vs.set i gk.v, bs.set i gk.bl, mb, ?_, by simp [a2], by simp [a3], rfl, fun j u hj => ?_, ?_, rfl, ?_⟩
      · rw [List.length_set, e1]; exact hst.1
      · rw [List.getElem?_set] at hj
        have egd : (xss.set i ys).getD j [] = if j = i then ys else xss.getD j [] := by
          simp only [List.getD_eq_getElem?_getD, List.getElem?_set]
          by_cases e : i = j
          · subst e; simp [hi]
          · have e' : ¬ j = i := fun h => e h.symm
            simp [e, e']
        have egb : (bs.set i gk.bl).getD j [] = if j = i then gk.bl else bs.getD j [] := by
          simp only [List.getD_eq_getElem?_getD, List.getElem?_set]
          by_cases e : i = j
          · subst e; simp [hib]
          · have e' : ¬ j = i := fun h => e h.symm
            simp [e, e']
        rw [egd, egb]
        split at hj
        · subst_vars
          cases hj
          simp only [if_true]
          exact ⟨ownsRow_of_block b1 fun c hc => hap c fun e => hdis c (b3.mem hc) (by rw [e]; exact hgb), b2, b3.list⟩
        · rename_i hij
          have hij' : ¬ j = i := fun e => hij e.symm
          simp only [hij', if_false]
          obtain ⟨r1, r2, r3⟩ := a5 j u hj
          refine ⟨ownsRow_of_block r1 fun c hc => hap c fun e => ?_, r2, r3⟩
          -- a row's block is not the outer one
          have hjb : j < bs.length := by
            have := (List.getElem?_eq_some_iff.1 hj).1
            omega
          have hcm : c ∈ bs.flatten := List.mem_flatten.2 ⟨bs.getD j [], by rw [List.getD_eq_getElem?_getD, List.getElem?_eq_getElem hjb]; simp, by rw [← r3, hc]; simp⟩
          rw [a7, emb.1] at a8
          have := (List.nodup_cons.1 a8).1
          rw [← e] at this
          exact this hcm
      · exact .inr ⟨emb.2, emb.1⟩
      · show (mb ++ (bs.set i gk.bl).flatten).Nodup
        rw [flatten_set _ hib]
        rw [a7, flatten_at hib] at a8
        refine nodup_swap a8 b3.nodup fun c hc => ?_
        have := hdis c hc
        rwa [a7, flatten_at hib] at this
    · have hbb : base ≤ b := by rw [← eb]; exact (hr.hn _ _ _ hg hs (by simp) gh.b hgb).1
      exact (Below.refl _ _).setCell (p := ⟨b, i, none⟩) hbb _
end
end Go.Proofs.Ytpllbdjobmgikaa
/-
  The rules of the abstract machine in the form in which the walks use them. No condition.
-/
namespace Go.Proofs.Ytpllbdjobmgikaa
open Go Go.RowKit

/-- An operand's abstract value, found in its slot. -/
def evo (env : Env) : Operand → Option AV
  | .tmp t => env.fd t
  | .const v => some (.val v)
  | .global _ => none
  | .func f => some (.val (.func (.func f) #[] #[]))

section
variable {P : Program} {env : Env} {os : List AO} {d : Option Tmp} {ty : TypeId} {pos : String} {af : Array Edge} {g : Option (Nat × Bool)} {N : APost} {X : Nat → APost} {Rt : APost} {l rest : List Oper} {K : APost} {q : Md} {wl : Bool}

theorem ev_of {x : Operand} {a : AV} (h : evo env x = some a) : AV.ev env x = a := by
  cases x with
  | tmp t => exact Env.lk_of h
  | const v => simp only [evo, Option.some.injEq] at h; exact h
  | global g => cases h
  | func f => simp only [evo, Option.some.injEq] at h; exact h
theorem gd_of {t : Nat} {a : AV} (h : env.fd t = some a) : env.lk t = a := Env.lk_of h
theorem gdl {l : List AV} {t : Nat} {a : AV} (h : l[t]? = some a) : l.getD t .any = a := by simp [h]

theorem a_move {x : Operand} {a : AV} (hx : evo env x = some a) : QOp P wl ⟨d, .move x, ty, pos, af, g⟩ env os a := ev_of hx ▸ q_move
theorem a_assign {x : Operand} {a : AV} (hx : evo env x = some a) : QOp P wl ⟨d, .assign x, ty, pos, af, g⟩ env os a := ev_of hx ▸ q_assign
theorem a_pick_t {c x y : Operand} {a : AV} (hc : evo env c = some (.val (.bool true))) (hx : evo env x = some a) : QOp P wl ⟨d, .pick c x y, ty, pos, af, g⟩ env os a := ev_of hx ▸ q_pick_t (ev_of hc)
theorem a_pick_f {c x y : Operand} {a : AV} (hc : evo env c = some (.val (.bool false))) (hy : evo env y = some a) : QOp P wl ⟨d, .pick c x y, ty, pos, af, g⟩ env os a := ev_of hy ▸ q_pick_f (ev_of hc)
theorem a_len {t e : TypeId} [TSlice P t e] {x : Operand} {a : AV} {n : Nat} (hx : evo env x = some a) (hl : HasLen os a n) : QOp P wl ⟨d, .call { callee := .builtin .len, args := #[x], argTypes := #[t] }, ty, pos, af, g⟩ env os (.i n) :=
  q_len (ev_of hx ▸ hl)

theorem im_nil : Imms os (([] : List Operand).map (AV.ev env)) [] := trivial
theorem im_cons {x : Operand} {xs : List Operand} {a b : AV} {bs : List AV} (hx : evo env x = some a) (h : Imm os a b) (hs : Imms os (xs.map (AV.ev env)) bs) : Imms os ((x :: xs).map (AV.ev env)) (b :: bs) :=
  ⟨ev_of hx ▸ h, hs⟩

theorem im_agg1 {a a' : AV} (h : Imm os a a') : Imm os (.agg [a]) (.agg [a']) := Imm.aggs ⟨h, trivial⟩
theorem im_agg2 {a a' b b' : AV} (h : Imm os a a') (h2 : Imm os b b') : Imm os (.agg [a, b]) (.agg [a', b']) := Imm.aggs ⟨h, h2, trivial⟩
theorem AWp.condT {c : Operand} {x y : Code} (hc : evo env c = some (.val (.bool true))) (h : AWp P x N X Rt env os) : AWp P (.cond c x y) N X Rt env os :=
  .cond (ev_of hc) (fun _ => h) (fun e => by cases e)
theorem AWp.condF {c : Operand} {x y : Code} (hc : evo env c = some (.val (.bool false))) (h : AWp P y N X Rt env os) : AWp P (.cond c x y) N X Rt env os :=
  .cond (ev_of hc) (fun e => by cases e) (fun _ => h)
theorem AWp.condP {c : Operand} {x y : Code} {p : Prop} {_ : Decidable p} (hc : evo env c = some (.val (.bool (decide p)))) (ht : p → AWp P x N X Rt env os) (hf : ¬ p → AWp P y N X Rt env os) : AWp P (.cond c x y) N X Rt env os :=
  .cond (ev_of hc) (fun e => ht (of_decide_eq_true e)) (fun e => hf (of_decide_eq_false e))
theorem AWp.condN {c : Operand} {x y : Code} {p : Prop} {_ : Decidable p} (hc : evo env c = some (.val (.bool (!decide p)))) (ht : ¬ p → AWp P x N X Rt env os) (hf : p → AWp P y N X Rt env os) : AWp P (.cond c x y) N X Rt env os :=
  .cond (ev_of hc) (fun e => ht (by simpa using e)) (fun e => hf (by simpa using e))
theorem AWp.condB {c : Operand} {x y : Code} {b : Bool} (hc : evo env c = some (.val (.bool b))) (ht : b = true → AWp P x N X Rt env os) (hf : b = false → AWp P y N X Rt env os) : AWp P (.cond c x y) N X Rt env os :=
  .cond (ev_of hc) ht hf

theorem imu_nil {H : List Nat} : ImmUs os H (([] : List Operand).map (AV.ev env)) [] := trivial
theorem imu_cons {H : List Nat} {x : Operand} {xs : List Operand} {a b : AV} {bs : List AV} (hx : evo env x = some a) (h : ImmU os H a b) (hs : ImmUs os H (xs.map (AV.ev env)) bs) : ImmUs os H ((x :: xs).map (AV.ev env)) (b :: bs) :=
  ⟨ev_of hx ▸ h, hs⟩
theorem imu_agg1 {H : List Nat} {a a' : AV} (h : ImmU os H a a') : ImmU os H (.agg [a]) (.agg [a']) := ImmU.aggs ⟨h, trivial⟩
theorem imu_agg2 {H : List Nat} {a a' b b' : AV} (h : ImmU os H a a') (h2 : ImmU os H b b') : ImmU os H (.agg [a, b]) (.agg [a', b']) := ImmU.aggs ⟨h, h2, trivial⟩
theorem handed1 {h : Nat} {o : AO} (ho : os[h]? = some o) (hp : o.plain) : Handed os [h] [o] := by
  refine ⟨by simp, fun k x hk => ?_, rfl, by simpa using hp⟩
  cases k with
  | zero => simp at hk; subst hk; simp [ho]
  | succ k => simp at hk
section guards
variable {d' d'' : Tmp} {op : Op} {j : Nat} {pol : Bool}
theorem AOps.splitP (_hj : (l[j]?).bind (·.dst) = some d'') {p : Prop} {_ : Decidable p} (hd : env.fd d'' = some (.val (.bool (decide p)))) (ht : p → AOps P q l (⟨some d', op, ty, pos, af, some (j, pol)⟩ :: rest) K (env.up d'' (.val (.bool true))) os)
    (hf : ¬ p → AOps P q l (⟨some d', op, ty, pos, af, some (j, pol)⟩ :: rest) K (env.up d'' (.val (.bool false))) os) : AOps P q l (⟨some d', op, ty, pos, af, some (j, pol)⟩ :: rest) K env os :=
  .split d'' (gd_of hd) (fun e => ht (of_decide_eq_true e)) (fun e => hf (of_decide_eq_false e))
theorem AOps.splitN (_hj : (l[j]?).bind (·.dst) = some d'') {p : Prop} {_ : Decidable p} (hd : env.fd d'' = some (.val (.bool (!decide p)))) (ht : ¬ p → AOps P q l (⟨some d', op, ty, pos, af, some (j, pol)⟩ :: rest) K (env.up d'' (.val (.bool true))) os)
    (hf : p → AOps P q l (⟨some d', op, ty, pos, af, some (j, pol)⟩ :: rest) K (env.up d'' (.val (.bool false))) os) : AOps P q l (⟨some d', op, ty, pos, af, some (j, pol)⟩ :: rest) K env os :=
  .split d'' (gd_of hd) (fun e => ht (by simpa using e)) (fun e => hf (by simpa using e))
theorem AOps.splitB (_hj : (l[j]?).bind (·.dst) = some d'') {b : Bool} (hd : env.fd d'' = some (.val (.bool b))) (ht : b = true → AOps P q l (⟨some d', op, ty, pos, af, some (j, pol)⟩ :: rest) K (env.up d'' (.val (.bool true))) os)
    (hf : b = false → AOps P q l (⟨some d', op, ty, pos, af, some (j, pol)⟩ :: rest) K (env.up d'' (.val (.bool false))) os) : AOps P q l (⟨some d', op, ty, pos, af, some (j, pol)⟩ :: rest) K env os :=
  .split d'' (gd_of hd) ht hf
end guards

theorem ResIs.v1 {fn : Func} {t : Tmp} (h : fn.results = #[.tmp t]) {a : AV} (ht : env.fd t = some a) : ResIs P fn env os a := gd_of ht ▸ .t1 h
theorem ResIs.vv2 {fn : Func} {t u : Tmp} (h : fn.results = #[.tmp t, .tmp u]) {a b : Value} (ha : env.fd t = some (.val a)) (hb : env.fd u = some (.val b)) : ResIs P fn env os (.val (.tuple #[a, b])) := .v2 h (gd_of ha) (gd_of hb)
theorem ResIs.a2 {fn : Func} {t u : Tmp} (h : fn.results = #[.tmp t, .tmp u]) {a b : AV} (ha : env.fd t = some a) (hb : env.fd u = some b) : ResIs P fn env os (.tup [a, b]) := gd_of ha ▸ gd_of hb ▸ .t2 h

theorem ResIs.bool {fn : Func} {t : Tmp} (h : fn.results = #[.tmp t]) {b b' : Bool} (ht : env.fd t = some (.b b)) (e : b = b') : ResIs P fn env os (.val (.bool b')) := e ▸ .v1 h ht
theorem ResIs.int {fn : Func} {t : Tmp} (h : fn.results = #[.tmp t]) {b b' : Int} (ht : env.fd t = some (.i b)) (e : b = b') : ResIs P fn env os (.val (.int .i64 b')) := e ▸ .v1 h ht
theorem ResIs.intint {fn : Func} {t u : Tmp} (h : fn.results = #[.tmp t, .tmp u]) {a a' b b' : Int} (ht : env.fd t = some (.i a)) (hu : env.fd u = some (.i b)) (e1 : a = a') (e2 : b = b') : ResIs P fn env os (.val (.tuple #[.int .i64 a', .int .i64 b'])) :=
  e1 ▸ e2 ▸ .vv2 h ht hu
/-- Facts on a list that is read. -/
theorem RVs.ints {w : World} {args : List AV} {vs : Array Value} (h : RVs w args vs) {i : Nat} {xs : List Int} (hi : args[i]? = some (.ints xs)) : (∀ x ∈ xs, inI x) ∧ xs.length ≤ 9223372036854775807 := by
  have := h.2 i
  rw [gdl hi] at this
  generalize vs.getD i undef = v at this
  cases this with
  | ints h1 =>
    obtain ⟨⟨a, cap, _, h2, h3, _⟩, h4⟩ := h1
    exact ⟨h4, by simp [maxLen] at h3; simp at h2; omega⟩
end

/-- The facts that the arguments bring with them. -/
def ArgOk : AV → Prop
  | .ints xs => (∀ x ∈ xs, inI x) ∧ xs.length ≤ 9223372036854775807
  | .intss xss => (∀ xs ∈ xss, (∀ x ∈ xs, inI x) ∧ xs.length ≤ 9223372036854775807) ∧ xss.length ≤ 9223372036854775807
  | .agg l => ∀ a ∈ l, match a with
    | .ints xs => (∀ x ∈ xs, inI x) ∧ xs.length ≤ 9223372036854775807
    | .intss xss => (∀ xs ∈ xss, (∀ x ∈ xs, inI x) ∧ xs.length ≤ 9223372036854775807) ∧ xss.length ≤ 9223372036854775807
    | _ => True
  | _ => True

theorem IntsAt.ok {w : World} {ok : Nat → Prop} {v : Value} {xs : List Int} (h : IntsAt w ok v xs) : (∀ x ∈ xs, inI x) ∧ xs.length ≤ 9223372036854775807 := by
  obtain ⟨⟨a, cap, _, h2, h3, _⟩, h4⟩ := h
  exact ⟨h4, by simp [maxLen] at h3; simp at h2; omega⟩
theorem IntssAt.ok {w : World} {ok : Nat → Prop} {v : Value} {xss : List (List Int)} (h : IntssAt w ok v xss) : (∀ xs ∈ xss, (∀ x ∈ xs, inI x) ∧ xs.length ≤ 9223372036854775807) ∧ xss.length ≤ 9223372036854775807 := by
  obtain ⟨vs, ⟨a, cap, _, h2, h3, _⟩, h4, h5⟩ := h
  refine ⟨fun xs hx => ?_, by simp [maxLen] at h3; omega⟩
  obtain ⟨i, hi, rfl⟩ := List.getElem_of_mem hx
  have := (h5 i _ (List.getElem?_eq_getElem (by omega))).ok
  simpa [hi] using this

theorem RV.argOk {w : World} {ok : Nat → Prop} {gs : List Gh} {v : Value} {a : AV} (h : RV w ok gs v a) : ArgOk a := by
  cases h with
  | ints h => exact h.ok
  | intss h => exact h.ok
  | @agg vs l h1 h2 h3 =>
    intro b hb
    obtain ⟨i, hi, rfl⟩ := List.getElem_of_mem hb
    have := h3 i
    rw [show l.getD i .any = l[i] by simp [hi]] at this
    show match l[i] with
      | .ints xs => (∀ x ∈ xs, inI x) ∧ xs.length ≤ 9223372036854775807
      | .intss xss => (∀ xs ∈ xss, (∀ x ∈ xs, inI x) ∧ xs.length ≤ 9223372036854775807) ∧ xss.length ≤ 9223372036854775807
      | _ => True
    generalize l[i] = b at this
    generalize vs.getD i undef = v at this
    cases this with
    | ints h => exact h.ok
    | intss h => exact h.ok
    | _ => trivial
  | _ => trivial

/-- A contract's proof may lean on what the arguments bring with them. -/
theorem AFnV.facts {P : Program} {f : FuncId} {args : List AV} {v : Value} (hb : HasBody P f) (h : (∀ a ∈ args, ArgOk a) → AFnV P f args v) : AFnV P f args v := by
  refine ⟨hb, fun w vs hvs => (h fun a ha => ?_).2 w vs hvs⟩
  obtain ⟨i, hi, rfl⟩ := List.getElem_of_mem ha
  have := (hvs.2 i).argOk
  rwa [show args.getD i .any = args[i] by simp [hi]] at this
theorem AFn.facts {P : Program} {f : FuncId} {args : List AV} {Q : AV → List AO → Prop} (hb : HasBody P f) (h : (∀ a ∈ args, ArgOk a) → AFn P f args Q) : AFn P f args Q := by
  refine ⟨hb, fun w vs hvs => (h fun a ha => ?_).2 w vs hvs⟩
  obtain ⟨i, hi, rfl⟩ := List.getElem_of_mem ha
  have := (hvs.2 i).argOk
  rwa [show args.getD i .any = args[i] by simp [hi]] at this

theorem AFnV.start {P : Program} {f : FuncId} {fn : Func} {c : Code} {args : List AV} {v : Value} {m : Nat} (hf : P.funcs[f]? = some fn) (hn : fn.ntmps = m) (hb : fn.body = some c) (hnm : (fn.name == "runtime.NumGoroutine") = false)
    (h : (∀ a ∈ args, ArgOk a) → AWp P c (fun _ _ => False) (fun _ _ _ => False) (fun env os => ResIs P fn env os (.val v)) (Env.start args (m - args.length)) []) : AFnV P f args v :=
  .facts ⟨fn, c, hf, hnm, hb⟩ fun hk => .of hf hb hnm (by rw [hn]) (h hk)
theorem AFn.start {P : Program} {f : FuncId} {fn : Func} {c : Code} {args : List AV} {Q : AV → List AO → Prop} {m : Nat} (hf : P.funcs[f]? = some fn) (hn : fn.ntmps = m) (hb : fn.body = some c) (hnm : (fn.name == "runtime.NumGoroutine") = false)
    (h : (∀ a ∈ args, ArgOk a) → AWp P c (fun _ _ => False) (fun _ _ _ => False) (fun env os => ∃ a r objs, ResIs P fn env os a ∧ Ret1 os a r objs ∧ Q r objs) (Env.start args (m - args.length)) []) : AFn P f args Q :=
  .facts ⟨fn, c, hf, hnm, hb⟩ fun hk => .of hf hb hnm (by rw [hn]) (h hk)

theorem AFnU.start {P : Program} {f : FuncId} {fn : Func} {c : Code} {args : List AV} {objs : List AO} {Q : Value → List AO → Prop} {m : Nat} (hf : P.funcs[f]? = some fn) (hn : fn.ntmps = m) (hb : fn.body = some c) (hnm : (fn.name == "runtime.NumGoroutine") = false)
    (h : ∀ K, AWp P c (fun _ _ => False) (fun _ _ _ => False) (fun env os1 => ∃ v os', ResIs P fn env os1 (.val v) ∧ Q v os' ∧ os1.take objs.length = os' ∧ os1[objs.length]? = some (.keep (objs.length + 1) K) ∧ ∀ o ∈ os', o.plain) (Env.start args (m - args.length)) (objs ++ [.keep (objs.length + 1) K])) :
    AFnU P f args objs Q := .of hf hb hnm (by rw [hn]) h

theorem geti_mem {xs : List Int} {i : Int} (h0 : 0 ≤ i) (h1 : i < xs.length) : geti xs i ∈ xs := by
  unfold geti
  have : i.toNat < xs.length := by omega
  simp [this]
theorem gets_mem {xss : List (List Int)} {i : Int} (h0 : 0 ≤ i) (h1 : i < xss.length) : gets xss i ∈ xss := by
  unfold gets
  have : i.toNat < xss.length := by omega
  simp [this]
theorem inI_of {n : Int} (h0 : -9223372036854775808 ≤ n) (h1 : n ≤ 9223372036854775807) : inI n := ⟨h0, h1⟩

/-- A loop's head against a literal. -/
theorem le_nil {e : Env} : LeM e [] := trivial
theorem le_eq {e : Env} {k : Nat} {a a' : AV} {t : List (Nat × AV)} (h : e.fd k = some a) (ha : a = a') (ht : LeM e t) : LeM e ((k, a') :: t) := ⟨ha ▸ h, ht⟩
theorem lee {e e' : Env} (h : e'.n = e.n) (hm : LeM e e'.m) : LeE e e' := ⟨h, hm⟩
theorem lo_nil {a : List AO} : LeO a [] := by cases a <;> trivial
theorem lo_dead {a : AO} {as0 bs : List AO} (h : LeO as0 bs) : LeO (a :: as0) (.dead :: bs) := ⟨.inl rfl, h⟩
theorem lo_eq {a b : AO} {as0 bs : List AO} (e : a = b) (h : LeO as0 bs) : LeO (a :: as0) (b :: bs) := ⟨.inr (.inl e), h⟩
end Go.Proofs.Ytpllbdjobmgikaa
/-
  The rules of the abstract machine joined with their operations, by program: a walk finds its rule by the operation's head. No condition.
-/
namespace Go.Proofs.Ytpllbdjobmgikaa
open Go Go.RowKit
theorem if_pos' {c : Prop} [Decidable c] {A B : Prop} (hc : c) (h : A) : if c then A else B := by rw [if_pos hc]; exact h
theorem if_neg' {c : Prop} [Decidable c] {A B : Prop} (hc : ¬ c) (h : B) : if c then A else B := by rw [if_neg hc]; exact h
theorem lt_of_get {α : Type} {l : List α} {i : Nat} {a : α} (h : l[i]? = some a) : i < l.length := (List.getElem?_eq_some_iff.1 h).1
section
variable {P : Program} {env : Env} {os : List AO} {d : Tmp} {ty : TypeId} {pos : String} {af : Array Edge} {g : Option (Nat × Bool)} {l rest : List Oper} {K : APost} {q : Md}
theorem w_move {x : Operand} {a : AV} (hw : wantedA l env ⟨some d, .move x, ty, pos, af, g⟩ = some true) (hx : evo env x = some a) (h' : AOps P q l rest K (env.up d (a)) os) : AOps P q l (⟨some d, .move x, ty, pos, af, g⟩ :: rest) K env os := AOps.qo hw (a_move hx) h'
theorem w_assign {x : Operand} {a : AV} (hw : wantedA l env ⟨some d, .assign x, ty, pos, af, g⟩ = some true) (hx : evo env x = some a) (h' : AOps P q l rest K (env.up d (a)) os) : AOps P q l (⟨some d, .assign x, ty, pos, af, g⟩ :: rest) K env os := AOps.qo hw (a_assign hx) h'
theorem w_pickT {c x y : Operand} {a : AV} (hw : wantedA l env ⟨some d, .pick c x y, ty, pos, af, g⟩ = some true) (hc : evo env c = some (.val (.bool true))) (hx : evo env x = some a) (h' : AOps P q l rest K (env.up d (a)) os) : AOps P q l (⟨some d, .pick c x y, ty, pos, af, g⟩ :: rest) K env os := AOps.qo hw (a_pick_t hc hx) h'
theorem w_pickF {c x y : Operand} {a : AV} (hw : wantedA l env ⟨some d, .pick c x y, ty, pos, af, g⟩ = some true) (hc : evo env c = some (.val (.bool false))) (hx : evo env y = some a) (h' : AOps P q l rest K (env.up d (a)) os) : AOps P q l (⟨some d, .pick c x y, ty, pos, af, g⟩ :: rest) K env os := AOps.qo hw (a_pick_f hc hx) h'
theorem w_len {t e : TypeId} [TSlice P t e] {x : Operand} {a : AV} {n : Nat} (hw : wantedA l env ⟨some d, .call { callee := .builtin .len, args := #[x], argTypes := #[t] }, ty, pos, af, g⟩ = some true) (hx : evo env x = some a) (hl : HasLen os a n) (h' : AOps P q l rest K (env.up d (.i n)) os) : AOps P q l (⟨some d, .call { callee := .builtin .len, args := #[x], argTypes := #[t] }, ty, pos, af, g⟩ :: rest) K env os := AOps.qo hw (a_len hx hl) h'
theorem w_lss {xt yt : TypeId} {x y : Operand} {a b : Int} {k : IntKind} (hw : wantedA l env ⟨some d, .binOp .lss xt x y yt, ty, pos, af, g⟩ = some true) (ha : evo env x = some (.val (.int k a))) (hb : evo env y = some (.val (.int k b))) (h' : AOps P q l rest K (env.up d (.b (decide (a < b)))) os) : AOps P q l (⟨some d, .binOp .lss xt x y yt, ty, pos, af, g⟩ :: rest) K env os := AOps.qo hw (q_lss (ev_of ha) (ev_of hb)) h'
theorem w_leq {xt yt : TypeId} {x y : Operand} {a b : Int} {k : IntKind} (hw : wantedA l env ⟨some d, .binOp .leq xt x y yt, ty, pos, af, g⟩ = some true) (ha : evo env x = some (.val (.int k a))) (hb : evo env y = some (.val (.int k b))) (h' : AOps P q l rest K (env.up d (.b (decide (a ≤ b)))) os) : AOps P q l (⟨some d, .binOp .leq xt x y yt, ty, pos, af, g⟩ :: rest) K env os := AOps.qo hw (q_leq (ev_of ha) (ev_of hb)) h'
theorem w_gtr {xt yt : TypeId} {x y : Operand} {a b : Int} {k : IntKind} (hw : wantedA l env ⟨some d, .binOp .gtr xt x y yt, ty, pos, af, g⟩ = some true) (ha : evo env x = some (.val (.int k a))) (hb : evo env y = some (.val (.int k b))) (h' : AOps P q l rest K (env.up d (.b (decide (b < a)))) os) : AOps P q l (⟨some d, .binOp .gtr xt x y yt, ty, pos, af, g⟩ :: rest) K env os := AOps.qo hw (q_gtr (ev_of ha) (ev_of hb)) h'
theorem w_geq {xt yt : TypeId} {x y : Operand} {a b : Int} {k : IntKind} (hw : wantedA l env ⟨some d, .binOp .geq xt x y yt, ty, pos, af, g⟩ = some true) (ha : evo env x = some (.val (.int k a))) (hb : evo env y = some (.val (.int k b))) (h' : AOps P q l rest K (env.up d (.b (decide (b ≤ a)))) os) : AOps P q l (⟨some d, .binOp .geq xt x y yt, ty, pos, af, g⟩ :: rest) K env os := AOps.qo hw (q_geq (ev_of ha) (ev_of hb)) h'
theorem w_eql {xt yt : TypeId} {x y : Operand} {a b : Int} {k : IntKind} (hw : wantedA l env ⟨some d, .binOp .eql xt x y yt, ty, pos, af, g⟩ = some true) (ha : evo env x = some (.val (.int k a))) (hb : evo env y = some (.val (.int k b))) (h' : AOps P q l rest K (env.up d (.b (decide (a = b)))) os) : AOps P q l (⟨some d, .binOp .eql xt x y yt, ty, pos, af, g⟩ :: rest) K env os := AOps.qo hw (q_eql (ev_of ha) (ev_of hb)) h'
theorem w_neq {xt yt : TypeId} {x y : Operand} {a b : Int} {k : IntKind} (hw : wantedA l env ⟨some d, .binOp .neq xt x y yt, ty, pos, af, g⟩ = some true) (ha : evo env x = some (.val (.int k a))) (hb : evo env y = some (.val (.int k b))) (h' : AOps P q l rest K (env.up d (.b (decide (a ≠ b)))) os) : AOps P q l (⟨some d, .binOp .neq xt x y yt, ty, pos, af, g⟩ :: rest) K env os := AOps.qo hw (q_neq (ev_of ha) (ev_of hb)) h'
theorem w_add {xt yt : TypeId} {x y : Operand} {a b : Int} (hw : wantedA l env ⟨some d, .binOp .add xt x y yt, ty, pos, af, g⟩ = some true) (ha : evo env x = some (.i a)) (hb : evo env y = some (.i b)) (hi : inI (a + b)) (h' : AOps P q l rest K (env.up d (.i (a + b))) os) : AOps P q l (⟨some d, .binOp .add xt x y yt, ty, pos, af, g⟩ :: rest) K env os := AOps.qo hw (q_add (ev_of ha) (ev_of hb) hi) h'
theorem w_sub {xt yt : TypeId} {x y : Operand} {a b : Int} (hw : wantedA l env ⟨some d, .binOp .sub xt x y yt, ty, pos, af, g⟩ = some true) (ha : evo env x = some (.i a)) (hb : evo env y = some (.i b)) (hi : inI (a - b)) (h' : AOps P q l rest K (env.up d (.i (a - b))) os) : AOps P q l (⟨some d, .binOp .sub xt x y yt, ty, pos, af, g⟩ :: rest) K env os := AOps.qo hw (q_sub (ev_of ha) (ev_of hb) hi) h'
theorem w_mul {xt yt : TypeId} {x y : Operand} {a b : Int} (hw : wantedA l env ⟨some d, .binOp .mul xt x y yt, ty, pos, af, g⟩ = some true) (ha : evo env x = some (.i a)) (hb : evo env y = some (.i b)) (hi : inI (a * b)) (h' : AOps P q l rest K (env.up d (.i (a * b))) os) : AOps P q l (⟨some d, .binOp .mul xt x y yt, ty, pos, af, g⟩ :: rest) K env os := AOps.qo hw (q_mul (ev_of ha) (ev_of hb) hi) h'
theorem w_quo {xt yt : TypeId} {x y : Operand} {a b : Int} (hw : wantedA l env ⟨some d, .binOp .quo xt x y yt, ty, pos, af, g⟩ = some true) (ha : evo env x = some (.i a)) (hb : evo env y = some (.i b)) (h0 : 0 ≤ a) (h1 : 0 < b) (hi : inI a) (h' : AOps P q l rest K (env.up d (.i (a / b))) os) : AOps P q l (⟨some d, .binOp .quo xt x y yt, ty, pos, af, g⟩ :: rest) K env os := AOps.qo hw (q_quo (ev_of ha) (ev_of hb) h0 h1 hi) h'
theorem w_rem {xt yt : TypeId} {x y : Operand} {a b : Int} (hw : wantedA l env ⟨some d, .binOp .rem xt x y yt, ty, pos, af, g⟩ = some true) (ha : evo env x = some (.i a)) (hb : evo env y = some (.i b)) (h0 : 0 ≤ a) (h1 : 0 < b) (h' : AOps P q l rest K (env.up d (.i (a % b))) os) : AOps P q l (⟨some d, .binOp .rem xt x y yt, ty, pos, af, g⟩ :: rest) K env os := AOps.qo hw (q_rem (ev_of ha) (ev_of hb) h0 h1) h'
theorem w_remT {xt yt : TypeId} {x y : Operand} {a b : Int} (hw : wantedA l env ⟨some d, .binOp .rem xt x y yt, ty, pos, af, g⟩ = some true) (ha : evo env x = some (.i a)) (hb : evo env y = some (.i b)) (h0 : b ≠ 0) (h' : AOps P q l rest K (env.up d (.i (a.tmod b))) os) : AOps P q l (⟨some d, .binOp .rem xt x y yt, ty, pos, af, g⟩ :: rest) K env os := AOps.qo hw (q_remT (ev_of ha) (ev_of hb) h0) h'
theorem w_quoT {xt yt : TypeId} {x y : Operand} {a b : Int} (hw : wantedA l env ⟨some d, .binOp .quo xt x y yt, ty, pos, af, g⟩ = some true) (ha : evo env x = some (.i a)) (hb : evo env y = some (.i b)) (h0 : b ≠ 0) (hi : inI (a.tdiv b)) (h' : AOps P q l rest K (env.up d (.i (a.tdiv b))) os) : AOps P q l (⟨some d, .binOp .quo xt x y yt, ty, pos, af, g⟩ :: rest) K env os := AOps.qo hw (q_quoT (ev_of ha) (ev_of hb) h0 hi) h'
theorem w_eqlb {xt yt : TypeId} [TBool P xt] {x y : Operand} {a b : Bool} (hw : wantedA l env ⟨some d, .binOp .eql xt x y yt, ty, pos, af, g⟩ = some true) (ha : evo env x = some (.b a)) (hb : evo env y = some (.b b)) (h' : AOps P q l rest K (env.up d (.b (decide (a = b)))) os) : AOps P q l (⟨some d, .binOp .eql xt x y yt, ty, pos, af, g⟩ :: rest) K env os := AOps.qo hw (q_eqlb (ev_of ha) (ev_of hb)) h'
theorem w_neqb {xt yt : TypeId} [TBool P xt] {x y : Operand} {a b : Bool} (hw : wantedA l env ⟨some d, .binOp .neq xt x y yt, ty, pos, af, g⟩ = some true) (ha : evo env x = some (.b a)) (hb : evo env y = some (.b b)) (h' : AOps P q l rest K (env.up d (.b (decide (a ≠ b)))) os) : AOps P q l (⟨some d, .binOp .neq xt x y yt, ty, pos, af, g⟩ :: rest) K env os := AOps.qo hw (q_neqb (ev_of ha) (ev_of hb)) h'
theorem w_not {xt : TypeId} {x : Operand} {b : Bool} (hw : wantedA l env ⟨some d, .unOp .not xt x, ty, pos, af, g⟩ = some true) (hb : evo env x = some (.b b)) (h' : AOps P q l rest K (env.up d (.b (!b))) os) : AOps P q l (⟨some d, .unOp .not xt x, ty, pos, af, g⟩ :: rest) K env os := AOps.qo hw (q_not (ev_of hb)) h'
theorem w_neg {xt : TypeId} {x : Operand} {a : Int} (hw : wantedA l env ⟨some d, .unOp .neg xt x, ty, pos, af, g⟩ = some true) (ha : evo env x = some (.i a)) (hi : inI (0 - a)) (h' : AOps P q l rest K (env.up d (.i (0 - a))) os) : AOps P q l (⟨some d, .unOp .neg xt x, ty, pos, af, g⟩ :: rest) K env os := AOps.qo hw (q_neg (ev_of ha) hi) h'
theorem w_conv {src dst : TypeId} [TKind P src .i64] [TKind P dst .i64] {x : Operand} {a : Int} (hw : wantedA l env ⟨some d, .convert src dst x, ty, pos, af, g⟩ = some true) (ha : evo env x = some (.i a)) (hi : inI a) (h' : AOps P q l rest K (env.up d (.i a)) os) : AOps P q l (⟨some d, .convert src dst x, ty, pos, af, g⟩ :: rest) K env os := AOps.qo hw (q_conv (ev_of ha) hi) h'
theorem w_min {ats : Array TypeId} {x y : Operand} {a b : Int} (hw : wantedA l env ⟨some d, .call { callee := .builtin .min, args := #[x, y], argTypes := ats }, ty, pos, af, g⟩ = some true) (ha : evo env x = some (.i a)) (hb : evo env y = some (.i b)) (h' : AOps P q l rest K (env.up d (.i (min a b))) os) : AOps P q l (⟨some d, .call { callee := .builtin .min, args := #[x, y], argTypes := ats }, ty, pos, af, g⟩ :: rest) K env os := AOps.qo hw (q_min (ev_of ha) (ev_of hb)) h'
theorem w_max {ats : Array TypeId} {x y : Operand} {a b : Int} (hw : wantedA l env ⟨some d, .call { callee := .builtin .max, args := #[x, y], argTypes := ats }, ty, pos, af, g⟩ = some true) (ha : evo env x = some (.i a)) (hb : evo env y = some (.i b)) (h' : AOps P q l rest K (env.up d (.i (max a b))) os) : AOps P q l (⟨some d, .call { callee := .builtin .max, args := #[x, y], argTypes := ats }, ty, pos, af, g⟩ :: rest) K env os := AOps.qo hw (q_max (ev_of ha) (ev_of hb)) h'
theorem w_idx {t e : TypeId} [TSlice P t e] [TCell P e] {x y : Operand} {xs : List Int} {i : Int} (hw : wantedA l env ⟨some d, .indexAddr t x y, ty, pos, af, g⟩ = some true) (hx : evo env x = some (.ints xs)) (hy : evo env y = some (.i i)) (h0 : 0 ≤ i) (h1 : i < xs.length) (h' : AOps P q l rest K (env.up d (.iptr xs i)) os) : AOps P q l (⟨some d, .indexAddr t x y, ty, pos, af, g⟩ :: rest) K env os := AOps.qo hw (q_idx_ints (ev_of hx) (ev_of hy) h0 h1) h'
theorem w_idxs {t e : TypeId} [TSlice P t e] [TCell P e] {x y : Operand} {xss : List (List Int)} {i : Int} (hw : wantedA l env ⟨some d, .indexAddr t x y, ty, pos, af, g⟩ = some true) (hx : evo env x = some (.intss xss)) (hy : evo env y = some (.i i)) (h0 : 0 ≤ i) (h1 : i < xss.length) (h' : AOps P q l rest K (env.up d (.iiptr xss i)) os) : AOps P q l (⟨some d, .indexAddr t x y, ty, pos, af, g⟩ :: rest) K env os := AOps.qo hw (q_idx_intss (ev_of hx) (ev_of hy) h0 h1) h'
theorem w_ld {t : TypeId} [TCell P t] {x : Operand} {xs : List Int} {i : Int} (hw : wantedA l env ⟨some d, .load t x, ty, pos, af, g⟩ = some true) (hq : q.wl = false) (hx : evo env x = some (.iptr xs i)) (h' : AOps P q l rest K (env.up d (.i (geti xs i))) os) : AOps P q l (⟨some d, .load t x, ty, pos, af, g⟩ :: rest) K env os := AOps.qo hw (by rw [hq]; exact q_load_iptr (ev_of hx)) h'
theorem w_lds {t : TypeId} [TCell P t] {x : Operand} {xss : List (List Int)} {i : Int} (hw : wantedA l env ⟨some d, .load t x, ty, pos, af, g⟩ = some true) (hq : q.wl = false) (hx : evo env x = some (.iiptr xss i)) (h' : AOps P q l rest K (env.up d (.ints (gets xss i))) os) : AOps P q l (⟨some d, .load t x, ty, pos, af, g⟩ :: rest) K env os := AOps.qo hw (by rw [hq]; exact q_load_iiptr (ev_of hx)) h'
theorem w_idxo {t e : TypeId} [TSlice P t e] [TCell P e] {x y : Operand} {h n : Nat} {i : Int} (hw : wantedA l env ⟨some d, .indexAddr t x y, ty, pos, af, g⟩ = some true) (hx : evo env x = some (.own h)) (hs : IsSl os h n) (hy : evo env y = some (.i i)) (h0 : 0 ≤ i) (h1 : i < n) (h' : AOps P q l rest K (env.up d (.optr h i.toNat)) os) : AOps P q l (⟨some d, .indexAddr t x y, ty, pos, af, g⟩ :: rest) K env os := AOps.qo hw (q_idx_own (ev_of hx) hs (ev_of hy) h0 h1) h'
theorem w_idxr {t e : TypeId} [TSlice P t e] [TCell P e] {x y : Operand} {h j : Nat} {te te2 : TypeId} {xss : List (List Int)} {i : Int} (hw : wantedA l env ⟨some d, .indexAddr t x y, ty, pos, af, g⟩ = some true) (hx : evo env x = some (.orow h j)) (hs : os[h]? = some (.sls te te2 xss)) (hy : evo env y = some (.i i)) (h0 : 0 ≤ i) (h1 : i < (xss.getD j []).length) (h' : AOps P q l rest K (env.up d (.orptr h j i.toNat)) os) : AOps P q l (⟨some d, .indexAddr t x y, ty, pos, af, g⟩ :: rest) K env os := AOps.qo hw (q_idx_orow (ev_of hx) hs (ev_of hy) h0 h1) h'
theorem w_ldo {t : TypeId} [TCell P t] {x : Operand} {h i : Nat} {e : TypeId} {xs : List Int} (hw : wantedA l env ⟨some d, .load t x, ty, pos, af, g⟩ = some true) (hq : q.wl = false) (hx : evo env x = some (.optr h i)) (hs : os[h]? = some (.sli e xs)) (hi : i < xs.length) (h' : AOps P q l rest K (env.up d (.i (geti xs i))) os) : AOps P q l (⟨some d, .load t x, ty, pos, af, g⟩ :: rest) K env os := AOps.qo hw (by rw [hq]; exact q_load_sli (ev_of hx) hs hi) h'
theorem w_ldr {t : TypeId} [TCell P t] {x : Operand} {h i k : Nat} {e : TypeId} {idx : List Nat} (hw : wantedA l env ⟨some d, .load t x, ty, pos, af, g⟩ = some true) (hq : q.wl = false) (hx : evo env x = some (.optr h i)) (hs : os[h]? = some (.slr e (idx.map (AV.orow k)))) (hi : i < idx.length) (h' : AOps P q l rest K (env.up d (.orow k (idx.getD i 0))) os) : AOps P q l (⟨some d, .load t x, ty, pos, af, g⟩ :: rest) K env os := AOps.qo hw (by rw [hq]; exact q_load_slr (ev_of hx) hs (by simp [hi])) h'
theorem w_ldls {t : TypeId} [TCell P t] {x : Operand} {h i : Nat} {e e2 : TypeId} {xss : List (List Int)} (hw : wantedA l env ⟨some d, .load t x, ty, pos, af, g⟩ = some true) (hq : q.wl = false) (hx : evo env x = some (.optr h i)) (hs : os[h]? = some (.sls e e2 xss)) (hi : i < xss.length) (h' : AOps P q l rest K (env.up d (.orow h i)) os) : AOps P q l (⟨some d, .load t x, ty, pos, af, g⟩ :: rest) K env os := AOps.qo hw (by rw [hq]; exact q_load_sls (ev_of hx) hs hi) h'
theorem w_ldrp {t : TypeId} [TCell P t] {x : Operand} {h i j : Nat} {e e2 : TypeId} {xss : List (List Int)} (hw : wantedA l env ⟨some d, .load t x, ty, pos, af, g⟩ = some true) (hq : q.wl = false) (hx : evo env x = some (.orptr h i j)) (hs : os[h]? = some (.sls e e2 xss)) (hj : j < (xss.getD i []).length) (h' : AOps P q l rest K (env.up d (.i (geti (xss.getD i []) j))) os) : AOps P q l (⟨some d, .load t x, ty, pos, af, g⟩ :: rest) K env os := AOps.qo hw (by rw [hq]; exact q_load_orptr (ev_of hx) hs hj) h'
theorem w_ldb {t : TypeId} [TCell P t] {x : Operand} {h i : Nat} {T : TypeId} {avs : List AV} {a : AV} (hw : wantedA l env ⟨some d, .load t x, ty, pos, af, g⟩ = some true) (hq : q.wl = false) (hx : evo env x = some (.optr h i)) (hs : os[h]? = some (.bx T avs)) (hi : avs[i]? = some a) (h' : AOps P q l rest K (env.up d (a)) os) : AOps P q l (⟨some d, .load t x, ty, pos, af, g⟩ :: rest) K env os := AOps.qo hw (by rw [hq]; exact QOp.cast (gdl hi) (q_load_bx (ev_of hx) hs (lt_of_get hi))) h'
theorem w_ldst {t : TypeId} {n : Nat} {zs : List Value} [TStruct P t n zs] {x : Operand} {h : Nat} {T : TypeId} {avs : List AV} (hw : wantedA l env ⟨some d, .load t x, ty, pos, af, g⟩ = some true) (hq : q.wl = false) (hx : evo env x = some (.optr h 0)) (hs : os[h]? = some (.bx T avs)) (hn : avs.length = n) (h' : AOps P q l rest K (env.up d (.agg avs)) os) : AOps P q l (⟨some d, .load t x, ty, pos, af, g⟩ :: rest) K env os := AOps.qo hw (by rw [hq]; exact q_load_str (ev_of hx) hs hn) h'
theorem w_fa {t : TypeId} {f off : Nat} [TField P t f off] {x : Operand} {h i j : Nat} (hw : wantedA l env ⟨some d, .fieldAddr t x f, ty, pos, af, g⟩ = some true) (hx : evo env x = some (.optr h i)) (hj : i + off = j) (h' : AOps P q l rest K (env.up d (.optr h j)) os) : AOps P q l (⟨some d, .fieldAddr t x f, ty, pos, af, g⟩ :: rest) K env os := AOps.qo hw (QOp.cast (by rw [hj]) (q_fieldAddr (off := off) (ev_of hx))) h'
theorem w_fld {t : TypeId} {f off : Nat} [TField P t f off] {x : Operand} {l' : List AV} {a : AV} (hw : wantedA l env ⟨some d, .field t x f, ty, pos, af, g⟩ = some true) (hx : evo env x = some (.agg l')) (hi : l'[off]? = some a) (h' : AOps P q l rest K (env.up d (a)) os) : AOps P q l (⟨some d, .field t x f, ty, pos, af, g⟩ :: rest) K env os := AOps.qo hw (QOp.cast (gdl hi) (q_field (off := off) (ev_of hx) (lt_of_get hi))) h'
theorem w_ext {x : Operand} {l' : List AV} {i : Nat} {a : AV} (hw : wantedA l env ⟨some d, .extract x i, ty, pos, af, g⟩ = some true) (hx : evo env x = some (.tup l')) (hi : l'[i]? = some a) (h' : AOps P q l rest K (env.up d (a)) os) : AOps P q l (⟨some d, .extract x i, ty, pos, af, g⟩ :: rest) K env os := AOps.qo hw (QOp.cast (gdl hi) (q_extract (ev_of hx) (lt_of_get hi))) h'
theorem w_extv {x : Operand} {vs : List Value} {i : Nat} {u : Value} (hw : wantedA l env ⟨some d, .extract x i, ty, pos, af, g⟩ = some true) (hx : evo env x = some (.val (.tuple vs.toArray))) (hi : vs[i]? = some u) (h' : AOps P q l rest K (env.up d (.val u)) os) : AOps P q l (⟨some d, .extract x i, ty, pos, af, g⟩ :: rest) K env os := AOps.qo hw (q_extract_v (ev_of hx) hi) h'
theorem w_slhi {t e : TypeId} [TSlice P t e] [TCell P e] {x y : Operand} {xs : List Int} {n : Int} (hw : wantedA l env ⟨some d, .slice t x none (some y) none, ty, pos, af, g⟩ = some true) (hx : evo env x = some (.ints xs)) (hy : evo env y = some (.i n)) (h0 : 0 ≤ n) (h1 : n ≤ xs.length) (h' : AOps P q l rest K (env.up d (.ints (xs.take n.toNat))) os) : AOps P q l (⟨some d, .slice t x none (some y) none, ty, pos, af, g⟩ :: rest) K env os := AOps.qo hw (q_slice_hi (ev_of hx) (ev_of hy) h0 h1) h'
theorem w_sllo {t e : TypeId} [TSlice P t e] [TCell P e] {x y : Operand} {xs : List Int} {n : Int} (hw : wantedA l env ⟨some d, .slice t x (some y) none none, ty, pos, af, g⟩ = some true) (hx : evo env x = some (.ints xs)) (hy : evo env y = some (.i n)) (h0 : 0 ≤ n) (h1 : n ≤ xs.length) (h' : AOps P q l rest K (env.up d (.ints (xs.drop n.toNat))) os) : AOps P q l (⟨some d, .slice t x (some y) none none, ty, pos, af, g⟩ :: rest) K env os := AOps.qo hw (q_slice_lo (ev_of hx) (ev_of hy) h0 h1) h'
theorem w_sllh {t e : TypeId} [TSlice P t e] [TCell P e] {x y z : Operand} {xs : List Int} {m n : Int} (hw : wantedA l env ⟨some d, .slice t x (some y) (some z) none, ty, pos, af, g⟩ = some true) (hx : evo env x = some (.ints xs)) (hy : evo env y = some (.i m)) (hz : evo env z = some (.i n)) (h0 : 0 ≤ m) (h1 : m ≤ n) (h2 : n ≤ xs.length) (h' : AOps P q l rest K (env.up d (.ints ((xs.take n.toNat).drop m.toNat))) os) : AOps P q l (⟨some d, .slice t x (some y) (some z) none, ty, pos, af, g⟩ :: rest) K env os := AOps.qo hw (q_slice_lh (ev_of hx) (ev_of hy) (ev_of hz) h0 h1 h2) h'
theorem w_oslo {t e : TypeId} [TSlice P t e] [TCell P e] {x y : Operand} {h : Nat} {e' : TypeId} {xs : List Int} {n : Int} (hw : wantedA l env ⟨some d, .slice t x (some y) none none, ty, pos, af, g⟩ = some true) (hx : evo env x = some (.own h)) (hs : os[h]? = some (.sli e' xs)) (hy : evo env y = some (.i n)) (h0 : 0 ≤ n) (h1 : n ≤ xs.length) (h' : AOps P q l rest K (env.up d (.osub h n.toNat (xs.length - n.toNat))) os) : AOps P q l (⟨some d, .slice t x (some y) none none, ty, pos, af, g⟩ :: rest) K env os := AOps.qo hw (q_oslice_lo (ev_of hx) hs (ev_of hy) h0 h1) h'
theorem w_oshi {t e : TypeId} [TSlice P t e] [TCell P e] {x y : Operand} {h : Nat} {e' : TypeId} {xs : List Int} {n : Int} (hw : wantedA l env ⟨some d, .slice t x none (some y) none, ty, pos, af, g⟩ = some true) (hx : evo env x = some (.own h)) (hs : os[h]? = some (.sli e' xs)) (hy : evo env y = some (.i n)) (h0 : 0 ≤ n) (h1 : n ≤ xs.length) (h' : AOps P q l rest K (env.up d (.osub h 0 n.toNat)) os) : AOps P q l (⟨some d, .slice t x none (some y) none, ty, pos, af, g⟩ :: rest) K env os := AOps.qo hw (q_oslice_hi (ev_of hx) hs (ev_of hy) h0 h1) h'
theorem w_build0 {t : TypeId} {n : Nat} {zs : List Value} [TBuild P t n zs] (hw : wantedA l env ⟨some d, .build t #[], ty, pos, af, g⟩ = some true) (h1 : zs.all (·.oneCell') = true) (h' : AOps P q l rest K (env.up d (.agg (zs.map AV.val))) os) : AOps P q l (⟨some d, .build t #[], ty, pos, af, g⟩ :: rest) K env os := AOps.qo hw (q_build0 h1) h'
theorem w_build1 {t : TypeId} {zs : List Value} [TBuild P t 1 zs] {x : Operand} {a : AV} (hw : wantedA l env ⟨some d, .build t #[(0, x)], ty, pos, af, g⟩ = some true) (hx : evo env x = some a) (h1 : OneC env os a) (h' : AOps P q l rest K (env.up d (.agg [a])) os) : AOps P q l (⟨some d, .build t #[(0, x)], ty, pos, af, g⟩ :: rest) K env os := AOps.qo hw (q_build1 (ev_of hx) h1) h'
theorem w_build2 {t : TypeId} {zs : List Value} [TBuild P t 2 zs] {x y : Operand} {a b : AV} (hw : wantedA l env ⟨some d, .build t #[(0, x), (1, y)], ty, pos, af, g⟩ = some true) (hx : evo env x = some a) (hy : evo env y = some b) (h1 : OneC env os a) (h2 : OneC env os b) (h' : AOps P q l rest K (env.up d (.agg [a, b])) os) : AOps P q l (⟨some d, .build t #[(0, x), (1, y)], ty, pos, af, g⟩ :: rest) K env os := AOps.qo hw (q_build2 (ev_of hx) (ev_of hy) h1 h2) h'
theorem w_skip {op : Op} (hw : wantedA l env ⟨some d, op, ty, pos, af, g⟩ = some false) (h' : AOps P q l rest K (env.up d (.val undef)) os) : AOps P q l (⟨some d, op, ty, pos, af, g⟩ :: rest) K env os := AOps.skip hw h'
theorem w_bs0 {t e : TypeId} {bytes : Nat} [TSlice P t e] [TElem P e (.int .i64 0) bytes] {m : Nat} (hm : os.length = m) (h' : AOps P .seq l rest K (env.up d (.own m)) (os ++ [.sli e []])) : AOps P .seq l (⟨some d, .buildSlice t 0 #[], ty, pos, af, none⟩ :: rest) K env os := AOps.lo (hm ▸ l_bs0) h'
theorem w_bs1 {t e : TypeId} {bytes : Nat} [TSlice P t e] [TElem P e (.int .i64 0) bytes] {x : Operand} {a : Int} {m : Nat} (hx : evo env x = some (.i a)) (hm : os.length = m) (ha : inI a) (h' : AOps P .seq l rest K (env.up d (.own m)) (os ++ [.sli e [a]])) : AOps P .seq l (⟨some d, .buildSlice t 1 #[(0, x)], ty, pos, af, none⟩ :: rest) K env os := AOps.lo (hm ▸ l_bs1 (ev_of hx) ha) h'
theorem w_bs2 {t e : TypeId} {bytes : Nat} [TSlice P t e] [TElem P e (.int .i64 0) bytes] {x y : Operand} {a b : Int} {m : Nat} (hx : evo env x = some (.i a)) (hy : evo env y = some (.i b)) (hm : os.length = m) (ha : inI a) (hb : inI b) (h' : AOps P .seq l rest K (env.up d (.own m)) (os ++ [.sli e [a, b]])) : AOps P .seq l (⟨some d, .buildSlice t 2 #[(0, x), (1, y)], ty, pos, af, none⟩ :: rest) K env os := AOps.lo (hm ▸ l_bs2 (ev_of hx) (ev_of hy) ha hb) h'
theorem w_appn {t e : TypeId} {bytes : Nat} [TSlice P t e] [TElem P e (.int .i64 0) bytes] {x y : Operand} {a : AV} {ys : List Int} {m : Nat} (hx : evo env x = some (.val (.slice none 0 0))) (hy : evo env y = some a) (hi : Imm os a (.ints ys)) (hm : os.length = m) (hb : ys.length * bytes ≤ 140737488355328) (h' : AOps P .seq l rest K (env.up d (.own m)) (os ++ [.sli e ys])) : AOps P .seq l (⟨some d, .call { callee := .builtin .append, args := #[x, y], argTypes := #[t, t] }, ty, pos, af, none⟩ :: rest) K env os := AOps.lo (hm ▸ l_append_nil (ev_of hx) (ev_of hy ▸ hi) hb) h'
theorem w_boxa {T : TypeId} {x : Operand} {avs : List AV} {m : Nat} (hx : evo env x = some (.agg avs)) (hm : os.length = m) (h' : AOps P .seq l rest K (env.up d (.optr m 0)) (os ++ [.bx T avs])) : AOps P .seq l (⟨some d, .box T x, ty, pos, af, none⟩ :: rest) K env os := AOps.lo (hm ▸ l_box_agg (ev_of hx)) h'
theorem w_alst {T : TypeId} {n : Nat} {zs : List Value} [TStruct P T n zs] {m : Nat} (h1 : zs.all (·.oneCell') = true) (hm : os.length = m) (h' : AOps P .seq l rest K (env.up d (.optr m 0)) (os ++ [.bx T (zs.map AV.val)])) : AOps P .seq l (⟨some d, .alloc T, ty, pos, af, none⟩ :: rest) K env os := AOps.lo (hm ▸ l_alloc_str (List.all_eq_true.1 h1)) h'
theorem w_alone {T : TypeId} {z : Value} {bytes : Nat} [TElem P T z bytes] {m : Nat} (h1 : z.oneCell' = true) (hc : z.cells = #[z]) (hm : os.length = m) (h' : AOps P .seq l rest K (env.up d (.optr m 0)) (os ++ [.bx T [.val z]])) : AOps P .seq l (⟨some d, .alloc T, ty, pos, af, none⟩ :: rest) K env os := AOps.lo (hm ▸ l_alloc_one h1 hc) h'
theorem w_mkr {t e e2 : TypeId} {bytes : Nat} [TSlice P t e] [TSlice P e e2] [TElem P e (.slice none 0 0) bytes] {x y : Operand} {n : Int} {m : Nat} (hx : evo env x = some (.i n)) (hy : evo env y = some (.i n)) (h0 : 0 ≤ n) (hb : (bytes : Int) * n ≤ 281474976710656) (h63 : n ≤ 9223372036854775807) (hm : os.length = m) (h' : AOps P .seq l rest K (env.up d (.own m)) (os ++ [.sls e e2 (List.replicate n.toNat [])])) : AOps P .seq l (⟨some d, .makeSlice t x y, ty, pos, af, none⟩ :: rest) K env os := AOps.lo (hm ▸ l_make_rows e2 (ev_of hx) (ev_of hy) h0 hb h63) h'
theorem w_mki {t e : TypeId} {bytes : Nat} [TSlice P t e] [TElem P e (.int .i64 0) bytes] {x y : Operand} {n : Int} {m : Nat} (hx : evo env x = some (.i n)) (hy : evo env y = some (.i n)) (h0 : 0 ≤ n) (hb : (bytes : Int) * n ≤ 281474976710656) (h63 : n ≤ 9223372036854775807) (hm : os.length = m) (h' : AOps P .seq l rest K (env.up d (.own m)) (os ++ [.sli e (List.replicate n.toNat 0)])) : AOps P .seq l (⟨some d, .makeSlice t x y, ty, pos, af, none⟩ :: rest) K env os := AOps.lo (hm ▸ l_make_int (ev_of hx) (ev_of hy) h0 hb h63) h'
theorem w_copy {t e : TypeId} {bytes : Nat} [TSlice P t e] [TElem P e (.int .i64 0) bytes] {x y : Operand} {h off len : Nat} {e' : TypeId} {xs ys : List Int} {a b : AV} (hx : evo env x = some a) (hd : Dst os h off len a) (hs : os[h]? = some (.sli e' xs)) (hle : off + len ≤ xs.length) (hy : evo env y = some b) (hi : Imm os b (.ints ys)) (h' : AOps P .seq l rest K (env.up d (.i (min len ys.length : Nat))) (os.set h (.sli e' (over xs off len ys)))) : AOps P .seq l (⟨some d, .call { callee := .builtin .copy, args := #[x, y], argTypes := #[t, t] }, ty, pos, af, none⟩ :: rest) K env os := AOps.lo (l_copy (ev_of hx) hd hs hle (ev_of hy ▸ hi)) h'
theorem w_app {t e : TypeId} {bytes : Nat} [TSlice P t e] [TElem P e (.int .i64 0) bytes] {x y : Operand} {h : Nat} {e' : TypeId} {xs ys : List Int} {a : AV} (hx : evo env x = some (.own h)) (hs : os[h]? = some (.sli e' xs)) (hee : e' = e) (hy : evo env y = some a) (hi : Imm os a (.ints ys)) (hb : (xs.length + ys.length) * bytes ≤ 140737488355328) (h' : AOps P .seq l rest K (Env.up (env.mp (AV.kill h)) d (.own h)) ((os.map (AO.kill h)).set h (.sli e (xs ++ ys)))) : AOps P .seq l (⟨some d, .call { callee := .builtin .append, args := #[x, y], argTypes := #[t, t] }, ty, pos, af, none⟩ :: rest) K env os := AOps.lo (l_append (ev_of hx) hs hee (ev_of hy ▸ hi) hb) h'
theorem w_strow {t : TypeId} [TCell P t] {x y : Operand} {h i k : Nat} {e e2 e3 : TypeId} {xss : List (List Int)} {ys : List Int} (hx : evo env x = some (.optr h i)) (hs : os[h]? = some (.sls e e2 xss)) (hi : i < xss.length) (hy : evo env y = some (.own k)) (hk : os[k]? = some (.sli e3 ys)) (he : e3 = e2) (hhk : (h == k) = false) (h' : AOps P .seq l rest K (env.mp (AV.noRow h)) (((os.map (AO.via (AV.noRow h) h)).set h (.sls e e2 (xss.set i ys))).set k .dead)) : AOps P .seq l (⟨none, .store t x y, ty, pos, af, none⟩ :: rest) K env os := AOps.so (l_store_row (ev_of hx) hs hi (ev_of hy) hk he hhk) h'
theorem w_sti {t : TypeId} [TCell P t] {x y : Operand} {h i : Nat} {e : TypeId} {xs : List Int} {n : Int} (hx : evo env x = some (.optr h i)) (hs : os[h]? = some (.sli e xs)) (hi : i < xs.length) (hy : evo env y = some (.i n)) (hn : inI n) (h' : AOps P .seq l rest K env (os.set h (.sli e (xs.set i n)))) : AOps P .seq l (⟨none, .store t x y, ty, pos, af, none⟩ :: rest) K env os := AOps.so (l_store_sli (ev_of hx) hs hi (ev_of hy) hn) h'
theorem w_stst {t : TypeId} {n : Nat} {zs : List Value} [TStruct P t n zs] {x y : Operand} {h : Nat} {T : TypeId} {avs l' : List AV} (hx : evo env x = some (.optr h 0)) (hs : os[h]? = some (.bx T avs)) (hn : avs.length = n) (hy : evo env y = some (.agg l')) (hl : l'.length = n) (h' : AOps P .seq l rest K env (os.set h (.bx T l'))) : AOps P .seq l (⟨none, .store t x y, ty, pos, af, none⟩ :: rest) K env os := AOps.so (l_store_str (ev_of hx) hs hn (ev_of hy) hl) h'
theorem w_stbv {t : TypeId} [TCell P t] {x y : Operand} {h i : Nat} {T : TypeId} {avs : List AV} {a0 : AV} {v : Value} (hx : evo env x = some (.optr h i)) (hs : os[h]? = some (.bx T avs)) (hi : avs[i]? = some a0) (hy : evo env y = some (.val v)) (h1 : v.oneCell' = true) (h2 : v.cells = #[v]) (h' : AOps P .seq l rest K env (os.set h (.bx T (avs.set i (.val v))))) : AOps P .seq l (⟨none, .store t x y, ty, pos, af, none⟩ :: rest) K env os := AOps.so (l_store_bx (ev_of hx) hs (lt_of_get hi) (ev_of hy) (one_val h1 h2)) h'
theorem w_stbi {t : TypeId} [TCell P t] {x y : Operand} {h i : Nat} {T : TypeId} {avs : List AV} {a0 : AV} {xs : List Int} (hx : evo env x = some (.optr h i)) (hs : os[h]? = some (.bx T avs)) (hi : avs[i]? = some a0) (hy : evo env y = some (.ints xs)) (h' : AOps P .seq l rest K env (os.set h (.bx T (avs.set i (.ints xs))))) : AOps P .seq l (⟨none, .store t x y, ty, pos, af, none⟩ :: rest) K env os := AOps.so (l_store_bx (ev_of hx) hs (lt_of_get hi) (ev_of hy) one_ints) h'
theorem w_stbii {t : TypeId} [TCell P t] {x y : Operand} {h i : Nat} {T : TypeId} {avs : List AV} {a0 : AV} {xs : List (List Int)} (hx : evo env x = some (.optr h i)) (hs : os[h]? = some (.bx T avs)) (hi : avs[i]? = some a0) (hy : evo env y = some (.intss xs)) (h' : AOps P .seq l rest K env (os.set h (.bx T (avs.set i (.intss xs))))) : AOps P .seq l (⟨none, .store t x y, ty, pos, af, none⟩ :: rest) K env os := AOps.so (l_store_bx (ev_of hx) hs (lt_of_get hi) (ev_of hy) one_intss) h'
theorem w_stbo {t : TypeId} [TCell P t] {x y : Operand} {h i k : Nat} {T : TypeId} {avs : List AV} {a0 : AV} {o : AO} (hx : evo env x = some (.optr h i)) (hs : os[h]? = some (.bx T avs)) (hi : avs[i]? = some a0) (hy : evo env y = some (.own k)) (ho : os[k]? = some o) (hn : o.live) (h' : AOps P .seq l rest K env (os.set h (.bx T (avs.set i (.own k))))) : AOps P .seq l (⟨none, .store t x y, ty, pos, af, none⟩ :: rest) K env os := AOps.so (l_store_bx (ev_of hx) hs (lt_of_get hi) (ev_of hy) (one_own ho hn)) h'
theorem w_call {f : FuncId} {args : List AV} {v : Value} {xs : List Operand} {ats : Array TypeId} (hc : AFnV P f args v) (hw : wantedA l env ⟨some d, .call { callee := .value (.func f), args := xs.toArray, argTypes := ats }, ty, pos, af, g⟩ = some true)
    (hq : q.wl = false) (hi : Imms os (xs.map (AV.ev env)) args) (h' : AOps P q l rest K (env.up d (.val v)) os) : AOps P q l (⟨some d, .call { callee := .value (.func f), args := xs.toArray, argTypes := ats }, ty, pos, af, g⟩ :: rest) K env os := AOps.qo hw (by rw [hq]; exact q_call hc hi) h'
theorem w_callm {f : FuncId} {args : List AV} {Q : AV → List AO → Prop} {xs : List Operand} {ats : Array TypeId} (hc : AFn P f args Q) (hi : Imms os (xs.map (AV.ev env)) args)
    (h' : ∀ r os0, Q r os0 → AOps P .seq l rest K (env.up d (r.sh os.length)) (os ++ os0.map (AO.sh os.length))) :
    AOps P .seq l (⟨some d, .call { callee := .value (.func f), args := xs.toArray, argTypes := ats }, ty, pos, af, none⟩ :: rest) K env os :=
  AOps.ca (c_call hc hi) fun r e o ⟨r0, os0, hq, h1, h2, h3⟩ => by subst h1; subst h2; subst h3; exact h' r0 os0 hq
theorem w_callv {f : FuncId} {args : List AV} {v : Value} {x : Operand} {xs : List Operand} {ats : Array TypeId} (hc : AFnV P f args v) (hx : evo env x = some (.val (.func (.func f) #[] #[]))) (hw : wantedA l env ⟨some d, .call { callee := .value x, args := xs.toArray, argTypes := ats }, ty, pos, af, g⟩ = some true)
    (hq : q.wl = false) (hi : Imms os (xs.map (AV.ev env)) args) (h' : AOps P q l rest K (env.up d (.val v)) os) : AOps P q l (⟨some d, .call { callee := .value x, args := xs.toArray, argTypes := ats }, ty, pos, af, g⟩ :: rest) K env os := AOps.qo hw (by rw [hq]; exact q_callv hc (ev_of hx) hi) h'
end
end Go.Proofs.Ytpllbdjobmgikaa
/-
  Contracts of the small functions that all seats share. No condition.
-/
namespace Go.Proofs.Ytpllbdjobmgikaa
open Go Go.RowKit
attribute [local irreducible] AWp AOps ResIs Ret1 QOp LOp COp AFnV AFn Imms LeE LeO
set_option maxHeartbeats 1000000
set_option linter.unusedSimpArgs false
set_option linter.unusedVariables false

theorem inRange_c (n a b : Int) : AFnV Try.prog 46 [.i n, .i a, .i b] (.bool (decide (a ≤ n ∧ n ≤ b))) := by
  (refine AFnV.start Try.func46 Try.ntmps46 rfl (by kernel_rfl) fun hk => ?_; simp only [Env.start, enumF, List.length_cons, List.length_nil, Nat.reduceAdd, Nat.reduceSub, List.cons_append, List.nil_append])
  repeat' (first
  | (apply AOps.nil; try simp only [List.nil_append, List.cons_append, List.set_cons_zero, List.set_cons_succ, List.length_cons, List.length_nil, Nat.reduceAdd, AV.sh, AV.sh1, AV.sh0, AO.sh, List.map_cons, List.map_nil, Nat.zero_add, Nat.add_zero, setAll])
  | ((apply AOps.splitP; exact rfl; exact rfl) <;> intro h)
  | ((apply AOps.splitN; exact rfl; exact rfl) <;> intro h)
  | (apply w_move; exact rfl; exact rfl)
  | (apply w_assign; exact rfl; exact rfl)
  | apply AWp.seq
  | apply AWp.region
  | ((apply AWp.condP; exact rfl) <;> intro h)
  | ((apply AWp.condN; exact rfl) <;> intro h)
  | (apply AWp.condT; exact rfl)
  | (apply AWp.condF; exact rfl)
  | ((apply AWp.condB; exact rfl) <;> intro h)
  | apply AWp.block
  | apply AWp.ret
  | apply AWp.exit
  | apply AWp.skip
  | (apply AWp.regionQ; kernel_rfl; kernel_rfl)
  | (apply if_pos'; exact rfl)
  | (apply if_neg'; decide)
  | (apply w_skip; exact rfl)
  | (apply w_pickT; exact rfl; exact rfl; exact rfl)
  | (apply w_pickF; exact rfl; exact rfl; exact rfl)
  | (apply w_len; exact rfl; exact rfl; first | exact .ints _ | exact .intss _ | exact .sli rfl | exact .sls rfl | exact .slr rfl | exact .orow rfl | exact .nil)
  | ((first | apply w_lss | apply w_leq | apply w_gtr | apply w_geq | apply w_eql | apply w_neq | apply w_add | apply w_sub | apply w_mul | apply w_idx | apply w_ld | apply w_fld | apply w_fa | apply w_extv | apply w_min | apply w_max | apply w_slhi | apply w_sllo | apply w_bs2); iterate 3 exact rfl)
  | ((first | apply w_eqlb | apply w_neqb | apply w_idxs | apply w_lds | apply w_ext); iterate 3 exact rfl)
  | (apply w_rem; exact rfl; exact rfl; exact rfl; (focus (omega; done)); (focus (omega; done)))
  | (apply w_quo; exact rfl; exact rfl; exact rfl; (focus (omega; done)); (focus (omega; done)))
  | (apply w_remT; exact rfl; exact rfl; exact rfl)
  | (apply w_quoT; exact rfl; exact rfl; exact rfl)
  | ((first | apply w_not | apply w_neg | apply w_conv | apply w_build0 | apply w_bs1 | apply w_boxa); iterate 2 exact rfl)
  | (apply w_idxo; exact rfl; exact rfl; (first | exact .sli rfl | exact .sls rfl | exact .slr rfl); exact rfl)
  | ((first | apply w_idxr | apply w_ldr); iterate 4 exact rfl)
  | (apply w_ldo; iterate 4 exact rfl)
  | (apply w_ldls; iterate 4 exact rfl)
  | (apply w_ldrp; iterate 4 exact rfl)
  | (apply w_ldb; iterate 5 exact rfl)
  | (apply w_ldst; iterate 5 exact rfl)
  | ((first | apply w_sllh | apply w_stbi); iterate 4 exact rfl)
  | ((first | apply w_oslo | apply w_oshi | apply w_stbii); iterate 4 exact rfl)
  | (apply w_copy; exact rfl; (first | exact .own rfl rfl rfl | exact .osub); exact rfl; rotate_left 1; exact rfl; (first | exact .ints _ | exact .sli rfl | exact .orow rfl | exact .nil | exact .osub rfl (by simp; omega)))
  | (apply w_build1; exact rfl; exact rfl; (first | exact one_val rfl rfl | exact one_ints | exact one_intss | exact one_own rfl True.intro))
  | (apply w_build2; exact rfl; exact rfl; exact rfl; (first | exact one_val rfl rfl | exact one_ints | exact one_intss | exact one_own rfl True.intro); (first | exact one_val rfl rfl | exact one_ints | exact one_intss | exact one_own rfl True.intro))
  | (apply w_bs0; iterate 1 exact rfl)
  | (apply w_appn; exact rfl; exact rfl; (first | exact .ints _ | exact .sli rfl | exact .orow rfl | exact .nil | exact .osub rfl (by simp; omega)); exact rfl)
  | (apply w_app; exact rfl; exact rfl; exact rfl; exact rfl; (first | exact .ints _ | exact .sli rfl | exact .orow rfl | exact .nil | exact .osub rfl (by simp; omega)); rotate_left 1; simp only [Env.mp, List.map_cons, List.map_nil, List.set_cons_zero, List.set_cons_succ, AV.kill, AV.kill1, AO.kill, AV.noRow, AV.noRow1, AO.via, reduceIte, Nat.reduceEqDiff, Nat.reduceLT, Env.up, Nat.zero_ne_one, Nat.one_ne_zero, Nat.reduceAdd, List.cons_append, List.nil_append]; rotate_left 1)
  | (apply w_alst; iterate 2 exact rfl)
  | (apply w_alone; iterate 3 exact rfl)
  | (apply w_mki; exact rfl; exact rfl; rotate_left 3; exact rfl; rotate_left 1)
  | (apply w_mkr; exact rfl; exact rfl; rotate_left 3; exact rfl; rotate_left 1)
  | (apply w_strow; exact rfl; exact rfl; rotate_left 1; exact rfl; exact rfl; exact rfl; exact rfl; simp only [Env.mp, List.map_cons, List.map_nil, List.set_cons_zero, List.set_cons_succ, AV.kill, AV.kill1, AO.kill, AV.noRow, AV.noRow1, AO.via, reduceIte, Nat.reduceEqDiff, Nat.reduceLT, Env.up, Nat.zero_ne_one, Nat.one_ne_zero, Nat.reduceAdd, List.cons_append, List.nil_append]; rotate_left 1)
  | (apply w_sti; exact rfl; exact rfl; rotate_left 1; exact rfl; rotate_left 2)
  | (apply w_stst; iterate 5 exact rfl)
  | (apply w_stbv; iterate 6 exact rfl)
  | (apply w_stbo; exact rfl; exact rfl; exact rfl; exact rfl; exact rfl; exact True.intro)
  | ((apply AOps.splitB; exact rfl; exact rfl) <;> intro h)
  | apply AllOf.nil
  | (apply AllOf.cons; exact rfl)
  | (apply AAny.take; exact rfl; exact rfl; kernel_rfl; kernel_rfl)
  | (apply AAny.all; exact rfl)
  | (apply AAny.done; exact rfl)
  | (apply inI_of <;> omega)
  | omega
  | (simp <;> omega))
  · exact .bool Try.results46 rfl (by simp [*])
  · exact .bool Try.results46 rfl (by simp [*])

theorem l01In_c (n a b : Int) : AFnV Try.prog 45 [.i n, .i a, .i b] (.bool (decide (a ≤ n ∧ n ≤ b))) := by
  (refine AFnV.start Try.func45 Try.ntmps45 rfl (by kernel_rfl) fun hk => ?_; simp only [Env.start, enumF, List.length_cons, List.length_nil, Nat.reduceAdd, Nat.reduceSub, List.cons_append, List.nil_append])
  repeat' (first
  | (apply AOps.nil; try simp only [List.nil_append, List.cons_append, List.set_cons_zero, List.set_cons_succ, List.length_cons, List.length_nil, Nat.reduceAdd, AV.sh, AV.sh1, AV.sh0, AO.sh, List.map_cons, List.map_nil, Nat.zero_add, Nat.add_zero, setAll])
  | ((apply AOps.splitP; exact rfl; exact rfl) <;> intro h)
  | ((apply AOps.splitN; exact rfl; exact rfl) <;> intro h)
  | (apply w_move; exact rfl; exact rfl)
  | (apply w_assign; exact rfl; exact rfl)
  | apply AWp.seq
  | apply AWp.region
  | ((apply AWp.condP; exact rfl) <;> intro h)
  | ((apply AWp.condN; exact rfl) <;> intro h)
  | (apply AWp.condT; exact rfl)
  | (apply AWp.condF; exact rfl)
  | ((apply AWp.condB; exact rfl) <;> intro h)
  | apply AWp.block
  | apply AWp.ret
  | apply AWp.exit
  | apply AWp.skip
  | (apply AWp.regionQ; kernel_rfl; kernel_rfl)
  | (apply if_pos'; exact rfl)
  | (apply if_neg'; decide)
  | (apply w_skip; exact rfl)
  | (apply w_pickT; exact rfl; exact rfl; exact rfl)
  | (apply w_pickF; exact rfl; exact rfl; exact rfl)
  | (apply w_len; exact rfl; exact rfl; first | exact .ints _ | exact .intss _ | exact .sli rfl | exact .sls rfl | exact .slr rfl | exact .orow rfl | exact .nil)
  | ((first | apply w_lss | apply w_leq | apply w_gtr | apply w_geq | apply w_eql | apply w_neq | apply w_add | apply w_sub | apply w_mul | apply w_idx | apply w_ld | apply w_fld | apply w_fa | apply w_extv | apply w_min | apply w_max | apply w_slhi | apply w_sllo | apply w_bs2); iterate 3 exact rfl)
  | ((first | apply w_eqlb | apply w_neqb | apply w_idxs | apply w_lds | apply w_ext); iterate 3 exact rfl)
  | (apply w_rem; exact rfl; exact rfl; exact rfl; (focus (omega; done)); (focus (omega; done)))
  | (apply w_quo; exact rfl; exact rfl; exact rfl; (focus (omega; done)); (focus (omega; done)))
  | (apply w_remT; exact rfl; exact rfl; exact rfl)
  | (apply w_quoT; exact rfl; exact rfl; exact rfl)
  | ((first | apply w_not | apply w_neg | apply w_conv | apply w_build0 | apply w_bs1 | apply w_boxa); iterate 2 exact rfl)
  | (apply w_idxo; exact rfl; exact rfl; (first | exact .sli rfl | exact .sls rfl | exact .slr rfl); exact rfl)
  | ((first | apply w_idxr | apply w_ldr); iterate 4 exact rfl)
  | (apply w_ldo; iterate 4 exact rfl)
  | (apply w_ldls; iterate 4 exact rfl)
  | (apply w_ldrp; iterate 4 exact rfl)
  | (apply w_ldb; iterate 5 exact rfl)
  | (apply w_ldst; iterate 5 exact rfl)
  | ((first | apply w_sllh | apply w_stbi); iterate 4 exact rfl)
  | ((first | apply w_oslo | apply w_oshi | apply w_stbii); iterate 4 exact rfl)
  | (apply w_copy; exact rfl; (first | exact .own rfl rfl rfl | exact .osub); exact rfl; rotate_left 1; exact rfl; (first | exact .ints _ | exact .sli rfl | exact .orow rfl | exact .nil | exact .osub rfl (by simp; omega)))
  | (apply w_build1; exact rfl; exact rfl; (first | exact one_val rfl rfl | exact one_ints | exact one_intss | exact one_own rfl True.intro))
  | (apply w_build2; exact rfl; exact rfl; exact rfl; (first | exact one_val rfl rfl | exact one_ints | exact one_intss | exact one_own rfl True.intro); (first | exact one_val rfl rfl | exact one_ints | exact one_intss | exact one_own rfl True.intro))
  | (apply w_bs0; iterate 1 exact rfl)
  | (apply w_appn; exact rfl; exact rfl; (first | exact .ints _ | exact .sli rfl | exact .orow rfl | exact .nil | exact .osub rfl (by simp; omega)); exact rfl)
  | (apply w_app; exact rfl; exact rfl; exact rfl; exact rfl; (first | exact .ints _ | exact .sli rfl | exact .orow rfl | exact .nil | exact .osub rfl (by simp; omega)); rotate_left 1; simp only [Env.mp, List.map_cons, List.map_nil, List.set_cons_zero, List.set_cons_succ, AV.kill, AV.kill1, AO.kill, AV.noRow, AV.noRow1, AO.via, reduceIte, Nat.reduceEqDiff, Nat.reduceLT, Env.up, Nat.zero_ne_one, Nat.one_ne_zero, Nat.reduceAdd, List.cons_append, List.nil_append]; rotate_left 1)
  | (apply w_alst; iterate 2 exact rfl)
  | (apply w_alone; iterate 3 exact rfl)
  | (apply w_mki; exact rfl; exact rfl; rotate_left 3; exact rfl; rotate_left 1)
  | (apply w_mkr; exact rfl; exact rfl; rotate_left 3; exact rfl; rotate_left 1)
  | (apply w_strow; exact rfl; exact rfl; rotate_left 1; exact rfl; exact rfl; exact rfl; exact rfl; simp only [Env.mp, List.map_cons, List.map_nil, List.set_cons_zero, List.set_cons_succ, AV.kill, AV.kill1, AO.kill, AV.noRow, AV.noRow1, AO.via, reduceIte, Nat.reduceEqDiff, Nat.reduceLT, Env.up, Nat.zero_ne_one, Nat.one_ne_zero, Nat.reduceAdd, List.cons_append, List.nil_append]; rotate_left 1)
  | (apply w_sti; exact rfl; exact rfl; rotate_left 1; exact rfl; rotate_left 2)
  | (apply w_stst; iterate 5 exact rfl)
  | (apply w_stbv; iterate 6 exact rfl)
  | (apply w_stbo; exact rfl; exact rfl; exact rfl; exact rfl; exact rfl; exact True.intro)
  | ((apply AOps.splitB; exact rfl; exact rfl) <;> intro h)
  | apply AllOf.nil
  | (apply AllOf.cons; exact rfl)
  | (apply AAny.take; exact rfl; exact rfl; kernel_rfl; kernel_rfl)
  | (apply AAny.all; exact rfl)
  | (apply AAny.done; exact rfl)
  | (apply inI_of <;> omega)
  | omega
  | (simp <;> omega))
  · exact .bool Try.results45 rfl (by simp [*])
  · exact .bool Try.results45 rfl (by simp [*])

end Go.Proofs.Ytpllbdjobmgikaa
/-
  Contracts of the laws' own helpers over lists of integers. No condition.
-/
namespace Go.Proofs.Ytpllbdjobmgikaa
open Go Go.RowKit
attribute [local irreducible] AWp AOps ResIs Ret1 QOp LOp COp AFnV AFn Imms LeE LeO
set_option maxHeartbeats 1000000
set_option linter.unusedSimpArgs false
set_option linter.unusedVariables false

def szI (xs : List Int) (left : Int) : Int := if left - xs.length < 0 then -1 else left - xs.length

theorem szInt64S_c (xs : List Int) (left : Int) (h0 : -1 ≤ left) (h1 : left ≤ 1048576) : AFnV Try.prog 21 [.ints xs, .i left] (.int .i64 (szI xs left)) := by
  (refine AFnV.start Try.func21 Try.ntmps21 rfl (by kernel_rfl) fun hk => ?_; simp only [Env.start, enumF, List.length_cons, List.length_nil, Nat.reduceAdd, Nat.reduceSub, List.cons_append, List.nil_append])
  obtain ⟨hk, hl⟩ : ArgOk (.ints xs) := hk _ (by simp)
  repeat' (first
  | (apply AOps.nil; try simp only [List.nil_append, List.cons_append, List.set_cons_zero, List.set_cons_succ, List.length_cons, List.length_nil, Nat.reduceAdd, AV.sh, AV.sh1, AV.sh0, AO.sh, List.map_cons, List.map_nil, Nat.zero_add, Nat.add_zero, setAll])
  | ((apply AOps.splitP; exact rfl; exact rfl) <;> intro h)
  | ((apply AOps.splitN; exact rfl; exact rfl) <;> intro h)
  | (apply w_move; exact rfl; exact rfl)
  | (apply w_assign; exact rfl; exact rfl)
  | apply AWp.seq
  | apply AWp.region
  | ((apply AWp.condP; exact rfl) <;> intro h)
  | ((apply AWp.condN; exact rfl) <;> intro h)
  | (apply AWp.condT; exact rfl)
  | (apply AWp.condF; exact rfl)
  | ((apply AWp.condB; exact rfl) <;> intro h)
  | apply AWp.block
  | apply AWp.ret
  | apply AWp.exit
  | apply AWp.skip
  | (apply AWp.regionQ; kernel_rfl; kernel_rfl)
  | (apply if_pos'; exact rfl)
  | (apply if_neg'; decide)
  | (apply w_skip; exact rfl)
  | (apply w_pickT; exact rfl; exact rfl; exact rfl)
  | (apply w_pickF; exact rfl; exact rfl; exact rfl)
  | (apply w_len; exact rfl; exact rfl; first | exact .ints _ | exact .intss _ | exact .sli rfl | exact .sls rfl | exact .slr rfl | exact .orow rfl | exact .nil)
  | ((first | apply w_lss | apply w_leq | apply w_gtr | apply w_geq | apply w_eql | apply w_neq | apply w_add | apply w_sub | apply w_mul | apply w_idx | apply w_ld | apply w_fld | apply w_fa | apply w_extv | apply w_min | apply w_max | apply w_slhi | apply w_sllo | apply w_bs2); iterate 3 exact rfl)
  | ((first | apply w_eqlb | apply w_neqb | apply w_idxs | apply w_lds | apply w_ext); iterate 3 exact rfl)
  | (apply w_rem; exact rfl; exact rfl; exact rfl; (focus (omega; done)); (focus (omega; done)))
  | (apply w_quo; exact rfl; exact rfl; exact rfl; (focus (omega; done)); (focus (omega; done)))
  | (apply w_remT; exact rfl; exact rfl; exact rfl)
  | (apply w_quoT; exact rfl; exact rfl; exact rfl)
  | ((first | apply w_not | apply w_neg | apply w_conv | apply w_build0 | apply w_bs1 | apply w_boxa); iterate 2 exact rfl)
  | (apply w_idxo; exact rfl; exact rfl; (first | exact .sli rfl | exact .sls rfl | exact .slr rfl); exact rfl)
  | ((first | apply w_idxr | apply w_ldr); iterate 4 exact rfl)
  | (apply w_ldo; iterate 4 exact rfl)
  | (apply w_ldls; iterate 4 exact rfl)
  | (apply w_ldrp; iterate 4 exact rfl)
  | (apply w_ldb; iterate 5 exact rfl)
  | (apply w_ldst; iterate 5 exact rfl)
  | ((first | apply w_sllh | apply w_stbi); iterate 4 exact rfl)
  | ((first | apply w_oslo | apply w_oshi | apply w_stbii); iterate 4 exact rfl)
  | (apply w_copy; exact rfl; (first | exact .own rfl rfl rfl | exact .osub); exact rfl; rotate_left 1; exact rfl; (first | exact .ints _ | exact .sli rfl | exact .orow rfl | exact .nil | exact .osub rfl (by simp; omega)))
  | (apply w_build1; exact rfl; exact rfl; (first | exact one_val rfl rfl | exact one_ints | exact one_intss | exact one_own rfl True.intro))
  | (apply w_build2; exact rfl; exact rfl; exact rfl; (first | exact one_val rfl rfl | exact one_ints | exact one_intss | exact one_own rfl True.intro); (first | exact one_val rfl rfl | exact one_ints | exact one_intss | exact one_own rfl True.intro))
  | (apply w_bs0; iterate 1 exact rfl)
  | (apply w_appn; exact rfl; exact rfl; (first | exact .ints _ | exact .sli rfl | exact .orow rfl | exact .nil | exact .osub rfl (by simp; omega)); exact rfl)
  | (apply w_app; exact rfl; exact rfl; exact rfl; exact rfl; (first | exact .ints _ | exact .sli rfl | exact .orow rfl | exact .nil | exact .osub rfl (by simp; omega)); rotate_left 1; simp only [Env.mp, List.map_cons, List.map_nil, List.set_cons_zero, List.set_cons_succ, AV.kill, AV.kill1, AO.kill, AV.noRow, AV.noRow1, AO.via, reduceIte, Nat.reduceEqDiff, Nat.reduceLT, Env.up, Nat.zero_ne_one, Nat.one_ne_zero, Nat.reduceAdd, List.cons_append, List.nil_append]; rotate_left 1)
  | (apply w_alst; iterate 2 exact rfl)
  | (apply w_alone; iterate 3 exact rfl)
  | (apply w_mki; exact rfl; exact rfl; rotate_left 3; exact rfl; rotate_left 1)
  | (apply w_mkr; exact rfl; exact rfl; rotate_left 3; exact rfl; rotate_left 1)
  | (apply w_strow; exact rfl; exact rfl; rotate_left 1; exact rfl; exact rfl; exact rfl; exact rfl; simp only [Env.mp, List.map_cons, List.map_nil, List.set_cons_zero, List.set_cons_succ, AV.kill, AV.kill1, AO.kill, AV.noRow, AV.noRow1, AO.via, reduceIte, Nat.reduceEqDiff, Nat.reduceLT, Env.up, Nat.zero_ne_one, Nat.one_ne_zero, Nat.reduceAdd, List.cons_append, List.nil_append]; rotate_left 1)
  | (apply w_sti; exact rfl; exact rfl; rotate_left 1; exact rfl; rotate_left 2)
  | (apply w_stst; iterate 5 exact rfl)
  | (apply w_stbv; iterate 6 exact rfl)
  | (apply w_stbo; exact rfl; exact rfl; exact rfl; exact rfl; exact rfl; exact True.intro)
  | ((apply AOps.splitB; exact rfl; exact rfl) <;> intro h)
  | apply AllOf.nil
  | (apply AllOf.cons; exact rfl)
  | (apply AAny.take; exact rfl; exact rfl; kernel_rfl; kernel_rfl)
  | (apply AAny.all; exact rfl)
  | (apply AAny.done; exact rfl)
  | (apply inI_of <;> omega)
  | omega
  | (simp <;> omega))
  · exact .int Try.results21 rfl (by simp [szI, h])
  · exact .int Try.results21 rfl (by simp [szI, h])

/-- The new slice of integers that a function hands back alone. -/
def IsInts (e : TypeId) (xs : List Int) (r : AV) (os : List AO) : Prop := r = .own 0 ∧ os = [.sli e xs]

theorem take_set_snoc (xs : List Int) (i : Nat) (h : i < xs.length) : (xs.take i ++ List.replicate (xs.length - i) 0).set i (geti xs i) = xs.take (i + 1) ++ List.replicate (xs.length - (i + 1)) 0 := by
  apply List.ext_getElem?
  intro j
  rw [List.getElem?_set]
  by_cases hj : i = j
  · subst hj
    have : (xs.take i ++ List.replicate (xs.length - i) 0).length = xs.length := by simp; omega
    simp only [this, h, if_true]
    rw [List.getElem?_append_left (by simp; omega), List.getElem?_take_of_lt (by omega)]
    simp [geti, h]
  · rw [if_neg hj, List.getElem?_append, List.getElem?_append, List.getElem?_take, List.getElem?_take]
    simp only [List.length_take, Nat.min_eq_left (Nat.le_of_lt h), Nat.min_eq_left h, List.getElem?_replicate]
    by_cases h2 : j < i
    · simp [h2, show j < i + 1 by omega]
    · have : ¬ j < i + 1 := by omega
      simp only [h2, this, if_false]
      by_cases h3 : j < xs.length
      · rw [if_pos (by omega), if_pos (by omega)]
      · rw [if_neg (by omega), if_neg (by omega)]

theorem toInt64S_c (xs : List Int) (hb : xs.length ≤ 1048576) : AFn Try.prog 24 [.ints xs] (IsInts 2 xs) := by
  (refine AFn.start Try.func24 Try.ntmps24 rfl (by kernel_rfl) fun hk => ?_; simp only [Env.start, enumF, List.length_cons, List.length_nil, Nat.reduceAdd, Nat.reduceSub, List.cons_append, List.nil_append])
  obtain ⟨hk, hl⟩ : ArgOk (.ints xs) := hk _ (by simp)
  repeat' (first
  | (apply AOps.nil; try simp only [List.nil_append, List.cons_append, List.set_cons_zero, List.set_cons_succ, List.length_cons, List.length_nil, Nat.reduceAdd, AV.sh, AV.sh1, AV.sh0, AO.sh, List.map_cons, List.map_nil, Nat.zero_add, Nat.add_zero, setAll])
  | ((apply AOps.splitP; exact rfl; exact rfl) <;> intro h)
  | ((apply AOps.splitN; exact rfl; exact rfl) <;> intro h)
  | (apply w_move; exact rfl; exact rfl)
  | (apply w_assign; exact rfl; exact rfl)
  | apply AWp.seq
  | apply AWp.region
  | ((apply AWp.condP; exact rfl) <;> intro h)
  | ((apply AWp.condN; exact rfl) <;> intro h)
  | (apply AWp.condT; exact rfl)
  | (apply AWp.condF; exact rfl)
  | ((apply AWp.condB; exact rfl) <;> intro h)
  | apply AWp.block
  | apply AWp.ret
  | apply AWp.exit
  | apply AWp.skip
  | (apply AWp.regionQ; kernel_rfl; kernel_rfl)
  | (apply if_pos'; exact rfl)
  | (apply if_neg'; decide)
  | (apply w_skip; exact rfl)
  | (apply w_pickT; exact rfl; exact rfl; exact rfl)
  | (apply w_pickF; exact rfl; exact rfl; exact rfl)
  | (apply w_len; exact rfl; exact rfl; first | exact .ints _ | exact .intss _ | exact .sli rfl | exact .sls rfl | exact .slr rfl | exact .orow rfl | exact .nil)
  | ((first | apply w_lss | apply w_leq | apply w_gtr | apply w_geq | apply w_eql | apply w_neq | apply w_add | apply w_sub | apply w_mul | apply w_idx | apply w_ld | apply w_fld | apply w_fa | apply w_extv | apply w_min | apply w_max | apply w_slhi | apply w_sllo | apply w_bs2); iterate 3 exact rfl)
  | ((first | apply w_eqlb | apply w_neqb | apply w_idxs | apply w_lds | apply w_ext); iterate 3 exact rfl)
  | (apply w_rem; exact rfl; exact rfl; exact rfl; (focus (omega; done)); (focus (omega; done)))
  | (apply w_quo; exact rfl; exact rfl; exact rfl; (focus (omega; done)); (focus (omega; done)))
  | (apply w_remT; exact rfl; exact rfl; exact rfl)
  | (apply w_quoT; exact rfl; exact rfl; exact rfl)
  | ((first | apply w_not | apply w_neg | apply w_conv | apply w_build0 | apply w_bs1 | apply w_boxa); iterate 2 exact rfl)
  | (apply w_idxo; exact rfl; exact rfl; (first | exact .sli rfl | exact .sls rfl | exact .slr rfl); exact rfl)
  | ((first | apply w_idxr | apply w_ldr); iterate 4 exact rfl)
  | (apply w_ldo; iterate 4 exact rfl)
  | (apply w_ldls; iterate 4 exact rfl)
  | (apply w_ldrp; iterate 4 exact rfl)
  | (apply w_ldb; iterate 5 exact rfl)
  | (apply w_ldst; iterate 5 exact rfl)
  | ((first | apply w_sllh | apply w_stbi); iterate 4 exact rfl)
  | ((first | apply w_oslo | apply w_oshi | apply w_stbii); iterate 4 exact rfl)
  | (apply w_copy; exact rfl; (first | exact .own rfl rfl rfl | exact .osub); exact rfl; rotate_left 1; exact rfl; (first | exact .ints _ | exact .sli rfl | exact .orow rfl | exact .nil | exact .osub rfl (by simp; omega)))
  | (apply w_build1; exact rfl; exact rfl; (first | exact one_val rfl rfl | exact one_ints | exact one_intss | exact one_own rfl True.intro))
  | (apply w_build2; exact rfl; exact rfl; exact rfl; (first | exact one_val rfl rfl | exact one_ints | exact one_intss | exact one_own rfl True.intro); (first | exact one_val rfl rfl | exact one_ints | exact one_intss | exact one_own rfl True.intro))
  | (apply w_bs0; iterate 1 exact rfl)
  | (apply w_appn; exact rfl; exact rfl; (first | exact .ints _ | exact .sli rfl | exact .orow rfl | exact .nil | exact .osub rfl (by simp; omega)); exact rfl)
  | (apply w_app; exact rfl; exact rfl; exact rfl; exact rfl; (first | exact .ints _ | exact .sli rfl | exact .orow rfl | exact .nil | exact .osub rfl (by simp; omega)); rotate_left 1; simp only [Env.mp, List.map_cons, List.map_nil, List.set_cons_zero, List.set_cons_succ, AV.kill, AV.kill1, AO.kill, AV.noRow, AV.noRow1, AO.via, reduceIte, Nat.reduceEqDiff, Nat.reduceLT, Env.up, Nat.zero_ne_one, Nat.one_ne_zero, Nat.reduceAdd, List.cons_append, List.nil_append]; rotate_left 1)
  | (apply w_alst; iterate 2 exact rfl)
  | (apply w_alone; iterate 3 exact rfl)
  | (apply w_mki; exact rfl; exact rfl; rotate_left 3; exact rfl; rotate_left 1)
  | (apply w_mkr; exact rfl; exact rfl; rotate_left 3; exact rfl; rotate_left 1)
  | (apply w_strow; exact rfl; exact rfl; rotate_left 1; exact rfl; exact rfl; exact rfl; exact rfl; simp only [Env.mp, List.map_cons, List.map_nil, List.set_cons_zero, List.set_cons_succ, AV.kill, AV.kill1, AO.kill, AV.noRow, AV.noRow1, AO.via, reduceIte, Nat.reduceEqDiff, Nat.reduceLT, Env.up, Nat.zero_ne_one, Nat.one_ne_zero, Nat.reduceAdd, List.cons_append, List.nil_append]; rotate_left 1)
  | (apply w_sti; exact rfl; exact rfl; rotate_left 1; exact rfl; rotate_left 2)
  | (apply w_stst; iterate 5 exact rfl)
  | (apply w_stbv; iterate 6 exact rfl)
  | (apply w_stbo; exact rfl; exact rfl; exact rfl; exact rfl; exact rfl; exact True.intro)
  | ((apply AOps.splitB; exact rfl; exact rfl) <;> intro h)
  | apply AllOf.nil
  | (apply AllOf.cons; exact rfl)
  | (apply AAny.take; exact rfl; exact rfl; kernel_rfl; kernel_rfl)
  | (apply AAny.all; exact rfl)
  | (apply AAny.done; exact rfl)
  | (apply inI_of <;> omega)
  | omega
  | (simp <;> omega))
  refine AWp.loop (ι := Nat) (fun i => ⟨22, [(0, .ints xs), (3, .own 0), (4, .i i)]⟩) (fun i => [.sli 2 (xs.take i ++ List.replicate (xs.length - i) 0)]) (fun i => i ≤ xs.length) (fun i => xs.length - i) 0 (Nat.zero_le _) ⟨lee rfl (by (repeat (first | exact le_nil | refine le_eq rfl rfl ?_))), lo_eq (by simp) lo_nil, rfl, rfl⟩ ?_
  intro i hi
  repeat' (first
  | (apply AOps.nil; try simp only [List.nil_append, List.cons_append, List.set_cons_zero, List.set_cons_succ, List.length_cons, List.length_nil, Nat.reduceAdd, AV.sh, AV.sh1, AV.sh0, AO.sh, List.map_cons, List.map_nil, Nat.zero_add, Nat.add_zero, setAll])
  | ((apply AOps.splitP; exact rfl; exact rfl) <;> intro h)
  | ((apply AOps.splitN; exact rfl; exact rfl) <;> intro h)
  | (apply w_move; exact rfl; exact rfl)
  | (apply w_assign; exact rfl; exact rfl)
  | apply AWp.seq
  | apply AWp.region
  | ((apply AWp.condP; exact rfl) <;> intro h)
  | ((apply AWp.condN; exact rfl) <;> intro h)
  | (apply AWp.condT; exact rfl)
  | (apply AWp.condF; exact rfl)
  | ((apply AWp.condB; exact rfl) <;> intro h)
  | apply AWp.block
  | apply AWp.ret
  | apply AWp.exit
  | apply AWp.skip
  | (apply AWp.regionQ; kernel_rfl; kernel_rfl)
  | (apply if_pos'; exact rfl)
  | (apply if_neg'; decide)
  | (apply w_skip; exact rfl)
  | (apply w_pickT; exact rfl; exact rfl; exact rfl)
  | (apply w_pickF; exact rfl; exact rfl; exact rfl)
  | (apply w_len; exact rfl; exact rfl; first | exact .ints _ | exact .intss _ | exact .sli rfl | exact .sls rfl | exact .slr rfl | exact .orow rfl | exact .nil)
  | ((first | apply w_lss | apply w_leq | apply w_gtr | apply w_geq | apply w_eql | apply w_neq | apply w_add | apply w_sub | apply w_mul | apply w_idx | apply w_ld | apply w_fld | apply w_fa | apply w_extv | apply w_min | apply w_max | apply w_slhi | apply w_sllo | apply w_bs2); iterate 3 exact rfl)
  | ((first | apply w_eqlb | apply w_neqb | apply w_idxs | apply w_lds | apply w_ext); iterate 3 exact rfl)
  | (apply w_rem; exact rfl; exact rfl; exact rfl; (focus (omega; done)); (focus (omega; done)))
  | (apply w_quo; exact rfl; exact rfl; exact rfl; (focus (omega; done)); (focus (omega; done)))
  | (apply w_remT; exact rfl; exact rfl; exact rfl)
  | (apply w_quoT; exact rfl; exact rfl; exact rfl)
  | ((first | apply w_not | apply w_neg | apply w_conv | apply w_build0 | apply w_bs1 | apply w_boxa); iterate 2 exact rfl)
  | (apply w_idxo; exact rfl; exact rfl; (first | exact .sli rfl | exact .sls rfl | exact .slr rfl); exact rfl)
  | ((first | apply w_idxr | apply w_ldr); iterate 4 exact rfl)
  | (apply w_ldo; iterate 4 exact rfl)
  | (apply w_ldls; iterate 4 exact rfl)
  | (apply w_ldrp; iterate 4 exact rfl)
  | (apply w_ldb; iterate 5 exact rfl)
  | (apply w_ldst; iterate 5 exact rfl)
  | ((first | apply w_sllh | apply w_stbi); iterate 4 exact rfl)
  | ((first | apply w_oslo | apply w_oshi | apply w_stbii); iterate 4 exact rfl)
  | (apply w_copy; exact rfl; (first | exact .own rfl rfl rfl | exact .osub); exact rfl; rotate_left 1; exact rfl; (first | exact .ints _ | exact .sli rfl | exact .orow rfl | exact .nil | exact .osub rfl (by simp; omega)))
  | (apply w_build1; exact rfl; exact rfl; (first | exact one_val rfl rfl | exact one_ints | exact one_intss | exact one_own rfl True.intro))
  | (apply w_build2; exact rfl; exact rfl; exact rfl; (first | exact one_val rfl rfl | exact one_ints | exact one_intss | exact one_own rfl True.intro); (first | exact one_val rfl rfl | exact one_ints | exact one_intss | exact one_own rfl True.intro))
  | (apply w_bs0; iterate 1 exact rfl)
  | (apply w_appn; exact rfl; exact rfl; (first | exact .ints _ | exact .sli rfl | exact .orow rfl | exact .nil | exact .osub rfl (by simp; omega)); exact rfl)
  | (apply w_app; exact rfl; exact rfl; exact rfl; exact rfl; (first | exact .ints _ | exact .sli rfl | exact .orow rfl | exact .nil | exact .osub rfl (by simp; omega)); rotate_left 1; simp only [Env.mp, List.map_cons, List.map_nil, List.set_cons_zero, List.set_cons_succ, AV.kill, AV.kill1, AO.kill, AV.noRow, AV.noRow1, AO.via, reduceIte, Nat.reduceEqDiff, Nat.reduceLT, Env.up, Nat.zero_ne_one, Nat.one_ne_zero, Nat.reduceAdd, List.cons_append, List.nil_append]; rotate_left 1)
  | (apply w_alst; iterate 2 exact rfl)
  | (apply w_alone; iterate 3 exact rfl)
  | (apply w_mki; exact rfl; exact rfl; rotate_left 3; exact rfl; rotate_left 1)
  | (apply w_mkr; exact rfl; exact rfl; rotate_left 3; exact rfl; rotate_left 1)
  | (apply w_strow; exact rfl; exact rfl; rotate_left 1; exact rfl; exact rfl; exact rfl; exact rfl; simp only [Env.mp, List.map_cons, List.map_nil, List.set_cons_zero, List.set_cons_succ, AV.kill, AV.kill1, AO.kill, AV.noRow, AV.noRow1, AO.via, reduceIte, Nat.reduceEqDiff, Nat.reduceLT, Env.up, Nat.zero_ne_one, Nat.one_ne_zero, Nat.reduceAdd, List.cons_append, List.nil_append]; rotate_left 1)
  | (apply w_sti; exact rfl; exact rfl; rotate_left 1; exact rfl; rotate_left 2)
  | (apply w_stst; iterate 5 exact rfl)
  | (apply w_stbv; iterate 6 exact rfl)
  | (apply w_stbo; exact rfl; exact rfl; exact rfl; exact rfl; exact rfl; exact True.intro)
  | ((apply AOps.splitB; exact rfl; exact rfl) <;> intro h)
  | apply AllOf.nil
  | (apply AllOf.cons; exact rfl)
  | (apply AAny.take; exact rfl; exact rfl; kernel_rfl; kernel_rfl)
  | (apply AAny.all; exact rfl)
  | (apply AAny.done; exact rfl)
  | (apply inI_of <;> omega)
  | omega
  | (simp <;> omega))
  · exact hk _ (geti_mem (by omega) (by omega))
  · refine ⟨i + 1, by omega, by omega, ⟨lee rfl (by (repeat (first | exact le_nil | refine le_eq rfl (by simp) ?_))), lo_eq ?_ lo_nil, rfl, rfl⟩⟩
    rw [← take_set_snoc xs i (by omega)]; rfl
  · have e : i = xs.length := by omega
    subst e
    refine ⟨_, _, _, .v1 Try.results24 rfl, .sli rfl, rfl, ?_⟩
    simp

theorem eqInt64S_c (xs ys : List Int) : AFnV Try.prog 27 [.ints xs, .ints ys] (.bool (decide (xs = ys))) := by
  (refine AFnV.start Try.func27 Try.ntmps27 rfl (by kernel_rfl) fun hk0 => ?_; simp only [Env.start, enumF, List.length_cons, List.length_nil, Nat.reduceAdd, Nat.reduceSub, List.cons_append, List.nil_append])
  obtain ⟨hk, hl⟩ : ArgOk (.ints xs) := hk0 _ (by simp)
  repeat' (first
  | (apply AOps.nil; try simp only [List.nil_append, List.cons_append, List.set_cons_zero, List.set_cons_succ, List.length_cons, List.length_nil, Nat.reduceAdd, AV.sh, AV.sh1, AV.sh0, AO.sh, List.map_cons, List.map_nil, Nat.zero_add, Nat.add_zero, setAll])
  | ((apply AOps.splitP; exact rfl; exact rfl) <;> intro h)
  | ((apply AOps.splitN; exact rfl; exact rfl) <;> intro h)
  | (apply w_move; exact rfl; exact rfl)
  | (apply w_assign; exact rfl; exact rfl)
  | apply AWp.seq
  | apply AWp.region
  | ((apply AWp.condP; exact rfl) <;> intro h)
  | ((apply AWp.condN; exact rfl) <;> intro h)
  | (apply AWp.condT; exact rfl)
  | (apply AWp.condF; exact rfl)
  | ((apply AWp.condB; exact rfl) <;> intro h)
  | apply AWp.block
  | apply AWp.ret
  | apply AWp.exit
  | apply AWp.skip
  | (apply AWp.regionQ; kernel_rfl; kernel_rfl)
  | (apply if_pos'; exact rfl)
  | (apply if_neg'; decide)
  | (apply w_skip; exact rfl)
  | (apply w_pickT; exact rfl; exact rfl; exact rfl)
  | (apply w_pickF; exact rfl; exact rfl; exact rfl)
  | (apply w_len; exact rfl; exact rfl; first | exact .ints _ | exact .intss _ | exact .sli rfl | exact .sls rfl | exact .slr rfl | exact .orow rfl | exact .nil)
  | ((first | apply w_lss | apply w_leq | apply w_gtr | apply w_geq | apply w_eql | apply w_neq | apply w_add | apply w_sub | apply w_mul | apply w_idx | apply w_ld | apply w_fld | apply w_fa | apply w_extv | apply w_min | apply w_max | apply w_slhi | apply w_sllo | apply w_bs2); iterate 3 exact rfl)
  | ((first | apply w_eqlb | apply w_neqb | apply w_idxs | apply w_lds | apply w_ext); iterate 3 exact rfl)
  | (apply w_rem; exact rfl; exact rfl; exact rfl; (focus (omega; done)); (focus (omega; done)))
  | (apply w_quo; exact rfl; exact rfl; exact rfl; (focus (omega; done)); (focus (omega; done)))
  | (apply w_remT; exact rfl; exact rfl; exact rfl)
  | (apply w_quoT; exact rfl; exact rfl; exact rfl)
  | ((first | apply w_not | apply w_neg | apply w_conv | apply w_build0 | apply w_bs1 | apply w_boxa); iterate 2 exact rfl)
  | (apply w_idxo; exact rfl; exact rfl; (first | exact .sli rfl | exact .sls rfl | exact .slr rfl); exact rfl)
  | ((first | apply w_idxr | apply w_ldr); iterate 4 exact rfl)
  | (apply w_ldo; iterate 4 exact rfl)
  | (apply w_ldls; iterate 4 exact rfl)
  | (apply w_ldrp; iterate 4 exact rfl)
  | (apply w_ldb; iterate 5 exact rfl)
  | (apply w_ldst; iterate 5 exact rfl)
  | ((first | apply w_sllh | apply w_stbi); iterate 4 exact rfl)
  | ((first | apply w_oslo | apply w_oshi | apply w_stbii); iterate 4 exact rfl)
  | (apply w_copy; exact rfl; (first | exact .own rfl rfl rfl | exact .osub); exact rfl; rotate_left 1; exact rfl; (first | exact .ints _ | exact .sli rfl | exact .orow rfl | exact .nil | exact .osub rfl (by simp; omega)))
  | (apply w_build1; exact rfl; exact rfl; (first | exact one_val rfl rfl | exact one_ints | exact one_intss | exact one_own rfl True.intro))
  | (apply w_build2; exact rfl; exact rfl; exact rfl; (first | exact one_val rfl rfl | exact one_ints | exact one_intss | exact one_own rfl True.intro); (first | exact one_val rfl rfl | exact one_ints | exact one_intss | exact one_own rfl True.intro))
  | (apply w_bs0; iterate 1 exact rfl)
  | (apply w_appn; exact rfl; exact rfl; (first | exact .ints _ | exact .sli rfl | exact .orow rfl | exact .nil | exact .osub rfl (by simp; omega)); exact rfl)
  | (apply w_app; exact rfl; exact rfl; exact rfl; exact rfl; (first | exact .ints _ | exact .sli rfl | exact .orow rfl | exact .nil | exact .osub rfl (by simp; omega)); rotate_left 1; simp only [Env.mp, List.map_cons, List.map_nil, List.set_cons_zero, List.set_cons_succ, AV.kill, AV.kill1, AO.kill, AV.noRow, AV.noRow1, AO.via, reduceIte, Nat.reduceEqDiff, Nat.reduceLT, Env.up, Nat.zero_ne_one, Nat.one_ne_zero, Nat.reduceAdd, List.cons_append, List.nil_append]; rotate_left 1)
  | (apply w_alst; iterate 2 exact rfl)
  | (apply w_alone; iterate 3 exact rfl)
  | (apply w_mki; exact rfl; exact rfl; rotate_left 3; exact rfl; rotate_left 1)
  | (apply w_mkr; exact rfl; exact rfl; rotate_left 3; exact rfl; rotate_left 1)
  | (apply w_strow; exact rfl; exact rfl; rotate_left 1; exact rfl; exact rfl; exact rfl; exact rfl; simp only [Env.mp, List.map_cons, List.map_nil, List.set_cons_zero, List.set_cons_succ, AV.kill, AV.kill1, AO.kill, AV.noRow, AV.noRow1, AO.via, reduceIte, Nat.reduceEqDiff, Nat.reduceLT, Env.up, Nat.zero_ne_one, Nat.one_ne_zero, Nat.reduceAdd, List.cons_append, List.nil_append]; rotate_left 1)
  | (apply w_sti; exact rfl; exact rfl; rotate_left 1; exact rfl; rotate_left 2)
  | (apply w_stst; iterate 5 exact rfl)
  | (apply w_stbv; iterate 6 exact rfl)
  | (apply w_stbo; exact rfl; exact rfl; exact rfl; exact rfl; exact rfl; exact True.intro)
  | ((apply AOps.splitB; exact rfl; exact rfl) <;> intro h)
  | apply AllOf.nil
  | (apply AllOf.cons; exact rfl)
  | (apply AAny.take; exact rfl; exact rfl; kernel_rfl; kernel_rfl)
  | (apply AAny.all; exact rfl)
  | (apply AAny.done; exact rfl)
  | (apply inI_of <;> omega)
  | omega
  | (simp <;> omega))
  · exact .bool Try.results27 rfl (by simp; intro e; subst e; simp at h)
  have hl2 : xs.length = ys.length := by simp at h; omega
  refine AWp.loop (ι := Nat) (fun i => ⟨26, [(0, .ints xs), (1, .ints ys), (5, .i i)]⟩) (fun i => []) (fun i => i ≤ xs.length ∧ xs.take i = ys.take i) (fun i => xs.length - i) 0 ⟨Nat.zero_le _, rfl⟩ ⟨lee rfl (by (repeat (first | exact le_nil | refine le_eq rfl rfl ?_ | refine le_eq rfl (congrArg AV.i (by omega)) ?_))), by (repeat (first | exact lo_nil | refine lo_dead ?_ | refine lo_eq rfl ?_)), rfl, rfl⟩ ?_
  intro i hi
  obtain ⟨hi, he⟩ := hi
  repeat' (first
  | (apply AOps.nil; try simp only [List.nil_append, List.cons_append, List.set_cons_zero, List.set_cons_succ, List.length_cons, List.length_nil, Nat.reduceAdd, AV.sh, AV.sh1, AV.sh0, AO.sh, List.map_cons, List.map_nil, Nat.zero_add, Nat.add_zero, setAll])
  | ((apply AOps.splitP; exact rfl; exact rfl) <;> intro h)
  | ((apply AOps.splitN; exact rfl; exact rfl) <;> intro h)
  | (apply w_move; exact rfl; exact rfl)
  | (apply w_assign; exact rfl; exact rfl)
  | apply AWp.seq
  | apply AWp.region
  | ((apply AWp.condP; exact rfl) <;> intro h)
  | ((apply AWp.condN; exact rfl) <;> intro h)
  | (apply AWp.condT; exact rfl)
  | (apply AWp.condF; exact rfl)
  | ((apply AWp.condB; exact rfl) <;> intro h)
  | apply AWp.block
  | apply AWp.ret
  | apply AWp.exit
  | apply AWp.skip
  | (apply AWp.regionQ; kernel_rfl; kernel_rfl)
  | (apply if_pos'; exact rfl)
  | (apply if_neg'; decide)
  | (apply w_skip; exact rfl)
  | (apply w_pickT; exact rfl; exact rfl; exact rfl)
  | (apply w_pickF; exact rfl; exact rfl; exact rfl)
  | (apply w_len; exact rfl; exact rfl; first | exact .ints _ | exact .intss _ | exact .sli rfl | exact .sls rfl | exact .slr rfl | exact .orow rfl | exact .nil)
  | ((first | apply w_lss | apply w_leq | apply w_gtr | apply w_geq | apply w_eql | apply w_neq | apply w_add | apply w_sub | apply w_mul | apply w_idx | apply w_ld | apply w_fld | apply w_fa | apply w_extv | apply w_min | apply w_max | apply w_slhi | apply w_sllo | apply w_bs2); iterate 3 exact rfl)
  | ((first | apply w_eqlb | apply w_neqb | apply w_idxs | apply w_lds | apply w_ext); iterate 3 exact rfl)
  | (apply w_rem; exact rfl; exact rfl; exact rfl; (focus (omega; done)); (focus (omega; done)))
  | (apply w_quo; exact rfl; exact rfl; exact rfl; (focus (omega; done)); (focus (omega; done)))
  | (apply w_remT; exact rfl; exact rfl; exact rfl)
  | (apply w_quoT; exact rfl; exact rfl; exact rfl)
  | ((first | apply w_not | apply w_neg | apply w_conv | apply w_build0 | apply w_bs1 | apply w_boxa); iterate 2 exact rfl)
  | (apply w_idxo; exact rfl; exact rfl; (first | exact .sli rfl | exact .sls rfl | exact .slr rfl); exact rfl)
  | ((first | apply w_idxr | apply w_ldr); iterate 4 exact rfl)
  | (apply w_ldo; iterate 4 exact rfl)
  | (apply w_ldls; iterate 4 exact rfl)
  | (apply w_ldrp; iterate 4 exact rfl)
  | (apply w_ldb; iterate 5 exact rfl)
  | (apply w_ldst; iterate 5 exact rfl)
  | ((first | apply w_sllh | apply w_stbi); iterate 4 exact rfl)
  | ((first | apply w_oslo | apply w_oshi | apply w_stbii); iterate 4 exact rfl)
  | (apply w_copy; exact rfl; (first | exact .own rfl rfl rfl | exact .osub); exact rfl; rotate_left 1; exact rfl; (first | exact .ints _ | exact .sli rfl | exact .orow rfl | exact .nil | exact .osub rfl (by simp; omega)))
  | (apply w_build1; exact rfl; exact rfl; (first | exact one_val rfl rfl | exact one_ints | exact one_intss | exact one_own rfl True.intro))
  | (apply w_build2; exact rfl; exact rfl; exact rfl; (first | exact one_val rfl rfl | exact one_ints | exact one_intss | exact one_own rfl True.intro); (first | exact one_val rfl rfl | exact one_ints | exact one_intss | exact one_own rfl True.intro))
  | (apply w_bs0; iterate 1 exact rfl)
  | (apply w_appn; exact rfl; exact rfl; (first | exact .ints _ | exact .sli rfl | exact .orow rfl | exact .nil | exact .osub rfl (by simp; omega)); exact rfl)
  | (apply w_app; exact rfl; exact rfl; exact rfl; exact rfl; (first | exact .ints _ | exact .sli rfl | exact .orow rfl | exact .nil | exact .osub rfl (by simp; omega)); rotate_left 1; simp only [Env.mp, List.map_cons, List.map_nil, List.set_cons_zero, List.set_cons_succ, AV.kill, AV.kill1, AO.kill, AV.noRow, AV.noRow1, AO.via, reduceIte, Nat.reduceEqDiff, Nat.reduceLT, Env.up, Nat.zero_ne_one, Nat.one_ne_zero, Nat.reduceAdd, List.cons_append, List.nil_append]; rotate_left 1)
  | (apply w_alst; iterate 2 exact rfl)
  | (apply w_alone; iterate 3 exact rfl)
  | (apply w_mki; exact rfl; exact rfl; rotate_left 3; exact rfl; rotate_left 1)
  | (apply w_mkr; exact rfl; exact rfl; rotate_left 3; exact rfl; rotate_left 1)
  | (apply w_strow; exact rfl; exact rfl; rotate_left 1; exact rfl; exact rfl; exact rfl; exact rfl; simp only [Env.mp, List.map_cons, List.map_nil, List.set_cons_zero, List.set_cons_succ, AV.kill, AV.kill1, AO.kill, AV.noRow, AV.noRow1, AO.via, reduceIte, Nat.reduceEqDiff, Nat.reduceLT, Env.up, Nat.zero_ne_one, Nat.one_ne_zero, Nat.reduceAdd, List.cons_append, List.nil_append]; rotate_left 1)
  | (apply w_sti; exact rfl; exact rfl; rotate_left 1; exact rfl; rotate_left 2)
  | (apply w_stst; iterate 5 exact rfl)
  | (apply w_stbv; iterate 6 exact rfl)
  | (apply w_stbo; exact rfl; exact rfl; exact rfl; exact rfl; exact rfl; exact True.intro)
  | ((apply AOps.splitB; exact rfl; exact rfl) <;> intro h)
  | apply AllOf.nil
  | (apply AllOf.cons; exact rfl)
  | (apply AAny.take; exact rfl; exact rfl; kernel_rfl; kernel_rfl)
  | (apply AAny.all; exact rfl)
  | (apply AAny.done; exact rfl)
  | (apply inI_of <;> omega)
  | omega
  | (simp <;> omega))
  · exact .bool Try.results27 rfl (by simp; intro e; subst e; simp at h)
  · refine ⟨i + 1, ⟨by omega, ?_⟩, by omega, ⟨lee rfl (by (repeat (first | exact le_nil | refine le_eq rfl rfl ?_ | refine le_eq rfl (congrArg AV.i (by omega)) ?_))), by (repeat (first | exact lo_nil | refine lo_dead ?_ | refine lo_eq rfl ?_)), rfl, rfl⟩⟩
    have h1 : i < xs.length := by omega
    have h2 : i < ys.length := by omega
    rw [List.take_succ_eq_append_getElem h1, List.take_succ_eq_append_getElem h2, he, List.append_cancel_left_eq]
    have : geti xs i = geti ys i := by simpa using h
    simpa [geti, h1, h2] using this
  · have e : i = xs.length := by omega
    subst e
    rw [List.take_length, hl2, List.take_length] at he
    exact .bool Try.results27 rfl (by simp [he])
end Go.Proofs.Ytpllbdjobmgikaa
/-
  Contracts of the laws' own helpers over lists of lists. No condition but a bound on the sizes.
-/
namespace Go.Proofs.Ytpllbdjobmgikaa
open Go Go.RowKit
attribute [local irreducible] AWp AOps ResIs Ret1 QOp LOp COp AFnV AFn Imms LeE LeO
set_option maxHeartbeats 1000000
set_option linter.unusedSimpArgs false
set_option linter.unusedVariables false

def szR : List (List Int) → Int → Int
  | [], l => l
  | xs :: r, l => if szI xs l < 0 then -1 else szR r (szI xs l)
def szSS (xss : List (List Int)) (left : Int) : Int := if left - xss.length < 0 then -1 else szR xss (left - xss.length)

theorem szR_ok : ∀ (xss : List (List Int)) (l : Int), 0 ≤ szR xss l → 0 ≤ l → szR xss l ≤ l ∧ ∀ xs ∈ xss, (xs.length : Int) ≤ l
  | [], l, _, _ => ⟨Int.le_refl _, by simp⟩
  | xs :: r, l, h, h0 => by
    simp only [szR] at h ⊢
    by_cases e : szI xs l < 0
    · rw [if_pos e] at h; omega
    · rw [if_neg e] at h ⊢
      have ih := szR_ok r (szI xs l) h (by omega)
      have hx : szI xs l = l - xs.length := by unfold szI at e ⊢; split <;> simp_all
      refine ⟨by omega, fun ys hy => ?_⟩
      rcases List.mem_cons.1 hy with rfl | hy
      · omega
      · have := ih.2 ys hy; omega
theorem szSS_ok {xss : List (List Int)} {left : Int} (h : 0 ≤ szSS xss left) (h0 : 0 ≤ left) : (xss.length : Int) ≤ left ∧ ∀ xs ∈ xss, (xs.length : Int) ≤ left := by
  unfold szSS at h
  split at h
  · omega
  · have := szR_ok xss _ h (by omega)
    exact ⟨by omega, fun xs hx => by have := this.2 xs hx; omega⟩

theorem drop_gets {xss : List (List Int)} {i : Nat} (h : i < xss.length) : xss.drop i = gets xss i :: xss.drop (i + 1) := by
  rw [List.drop_eq_getElem_cons h]; simp [gets, h]

theorem szInt64SS_c (xss : List (List Int)) (left : Int) (h0 : -1 ≤ left) (h1 : left ≤ 1048576) : AFnV Try.prog 6 [.intss xss, .i left] (.int .i64 (szSS xss left)) := by
  (refine AFnV.start Try.func6 Try.ntmps6 rfl (by kernel_rfl) fun hk0 => ?_; simp only [Env.start, enumF, List.length_cons, List.length_nil, Nat.reduceAdd, Nat.reduceSub, List.cons_append, List.nil_append])
  obtain ⟨hk, hl⟩ : ArgOk (.intss xss) := hk0 _ (by simp)
  repeat' (first
  | (apply AOps.nil; try simp only [List.nil_append, List.cons_append, List.set_cons_zero, List.set_cons_succ, List.length_cons, List.length_nil, Nat.reduceAdd, AV.sh, AV.sh1, AV.sh0, AO.sh, List.map_cons, List.map_nil, Nat.zero_add, Nat.add_zero, setAll])
  | ((apply AOps.splitP; exact rfl; exact rfl) <;> intro h)
  | ((apply AOps.splitN; exact rfl; exact rfl) <;> intro h)
  | (apply w_move; exact rfl; exact rfl)
  | (apply w_assign; exact rfl; exact rfl)
  | apply AWp.seq
  | apply AWp.region
  | ((apply AWp.condP; exact rfl) <;> intro h)
  | ((apply AWp.condN; exact rfl) <;> intro h)
  | (apply AWp.condT; exact rfl)
  | (apply AWp.condF; exact rfl)
  | ((apply AWp.condB; exact rfl) <;> intro h)
  | apply AWp.block
  | apply AWp.ret
  | apply AWp.exit
  | apply AWp.skip
  | (apply AWp.regionQ; kernel_rfl; kernel_rfl)
  | (apply if_pos'; exact rfl)
  | (apply if_neg'; decide)
  | (apply w_skip; exact rfl)
  | (apply w_pickT; exact rfl; exact rfl; exact rfl)
  | (apply w_pickF; exact rfl; exact rfl; exact rfl)
  | (apply w_len; exact rfl; exact rfl; first | exact .ints _ | exact .intss _ | exact .sli rfl | exact .sls rfl | exact .slr rfl | exact .orow rfl | exact .nil)
  | ((first | apply w_lss | apply w_leq | apply w_gtr | apply w_geq | apply w_eql | apply w_neq | apply w_add | apply w_sub | apply w_mul | apply w_idx | apply w_ld | apply w_fld | apply w_fa | apply w_extv | apply w_min | apply w_max | apply w_slhi | apply w_sllo | apply w_bs2); iterate 3 exact rfl)
  | ((first | apply w_eqlb | apply w_neqb | apply w_idxs | apply w_lds | apply w_ext); iterate 3 exact rfl)
  | (apply w_rem; exact rfl; exact rfl; exact rfl; (focus (omega; done)); (focus (omega; done)))
  | (apply w_quo; exact rfl; exact rfl; exact rfl; (focus (omega; done)); (focus (omega; done)))
  | (apply w_remT; exact rfl; exact rfl; exact rfl)
  | (apply w_quoT; exact rfl; exact rfl; exact rfl)
  | ((first | apply w_not | apply w_neg | apply w_conv | apply w_build0 | apply w_bs1 | apply w_boxa); iterate 2 exact rfl)
  | (apply w_idxo; exact rfl; exact rfl; (first | exact .sli rfl | exact .sls rfl | exact .slr rfl); exact rfl)
  | ((first | apply w_idxr | apply w_ldr); iterate 4 exact rfl)
  | (apply w_ldo; iterate 4 exact rfl)
  | (apply w_ldls; iterate 4 exact rfl)
  | (apply w_ldrp; iterate 4 exact rfl)
  | (apply w_ldb; iterate 5 exact rfl)
  | (apply w_ldst; iterate 5 exact rfl)
  | ((first | apply w_sllh | apply w_stbi); iterate 4 exact rfl)
  | ((first | apply w_oslo | apply w_oshi | apply w_stbii); iterate 4 exact rfl)
  | (apply w_copy; exact rfl; (first | exact .own rfl rfl rfl | exact .osub); exact rfl; rotate_left 1; exact rfl; (first | exact .ints _ | exact .sli rfl | exact .orow rfl | exact .nil | exact .osub rfl (by simp; omega)))
  | (apply w_build1; exact rfl; exact rfl; (first | exact one_val rfl rfl | exact one_ints | exact one_intss | exact one_own rfl True.intro))
  | (apply w_build2; exact rfl; exact rfl; exact rfl; (first | exact one_val rfl rfl | exact one_ints | exact one_intss | exact one_own rfl True.intro); (first | exact one_val rfl rfl | exact one_ints | exact one_intss | exact one_own rfl True.intro))
  | (apply w_bs0; iterate 1 exact rfl)
  | (apply w_appn; exact rfl; exact rfl; (first | exact .ints _ | exact .sli rfl | exact .orow rfl | exact .nil | exact .osub rfl (by simp; omega)); exact rfl)
  | (apply w_app; exact rfl; exact rfl; exact rfl; exact rfl; (first | exact .ints _ | exact .sli rfl | exact .orow rfl | exact .nil | exact .osub rfl (by simp; omega)); rotate_left 1; simp only [Env.mp, List.map_cons, List.map_nil, List.set_cons_zero, List.set_cons_succ, AV.kill, AV.kill1, AO.kill, AV.noRow, AV.noRow1, AO.via, reduceIte, Nat.reduceEqDiff, Nat.reduceLT, Env.up, Nat.zero_ne_one, Nat.one_ne_zero, Nat.reduceAdd, List.cons_append, List.nil_append]; rotate_left 1)
  | (apply w_alst; iterate 2 exact rfl)
  | (apply w_alone; iterate 3 exact rfl)
  | (apply w_mki; exact rfl; exact rfl; rotate_left 3; exact rfl; rotate_left 1)
  | (apply w_mkr; exact rfl; exact rfl; rotate_left 3; exact rfl; rotate_left 1)
  | (apply w_strow; exact rfl; exact rfl; rotate_left 1; exact rfl; exact rfl; exact rfl; exact rfl; simp only [Env.mp, List.map_cons, List.map_nil, List.set_cons_zero, List.set_cons_succ, AV.kill, AV.kill1, AO.kill, AV.noRow, AV.noRow1, AO.via, reduceIte, Nat.reduceEqDiff, Nat.reduceLT, Env.up, Nat.zero_ne_one, Nat.one_ne_zero, Nat.reduceAdd, List.cons_append, List.nil_append]; rotate_left 1)
  | (apply w_sti; exact rfl; exact rfl; rotate_left 1; exact rfl; rotate_left 2)
  | (apply w_stst; iterate 5 exact rfl)
  | (apply w_stbv; iterate 6 exact rfl)
  | (apply w_stbo; exact rfl; exact rfl; exact rfl; exact rfl; exact rfl; exact True.intro)
  | ((apply AOps.splitB; exact rfl; exact rfl) <;> intro h)
  | apply AllOf.nil
  | (apply AllOf.cons; exact rfl)
  | (apply AAny.take; exact rfl; exact rfl; kernel_rfl; kernel_rfl)
  | (apply AAny.all; exact rfl)
  | (apply AAny.done; exact rfl)
  | (apply inI_of <;> omega)
  | omega
  | (simp <;> omega))
  · exact .int Try.results6 rfl (by simp [szSS, h])
  refine AWp.loop (ι := Nat × Int) (fun s => ⟨27, [(0, .intss xss), (1, .i s.2), (5, .i s.1)]⟩) (fun _ => []) (fun s => s.1 ≤ xss.length ∧ 0 ≤ s.2 ∧ s.2 ≤ 1048576 ∧ szR (xss.drop s.1) s.2 = szSS xss left) (fun s => xss.length - s.1) (0, left - xss.length) ⟨by simp, by simp only; omega, by simp only; omega, by simp [szSS, h]⟩ ⟨lee rfl (by (repeat (first | exact le_nil | refine le_eq rfl rfl ?_ | refine le_eq rfl (congrArg AV.i (by omega)) ?_))), by (repeat (first | exact lo_nil | refine lo_dead ?_ | refine lo_eq rfl ?_)), rfl, rfl⟩ ?_
  rintro ⟨i, l⟩ ⟨a0, a1, a2, a3⟩
  simp only at a0 a1 a2 a3
  repeat' (first
  | (apply AOps.nil; try simp only [List.nil_append, List.cons_append, List.set_cons_zero, List.set_cons_succ, List.length_cons, List.length_nil, Nat.reduceAdd, AV.sh, AV.sh1, AV.sh0, AO.sh, List.map_cons, List.map_nil, Nat.zero_add, Nat.add_zero, setAll])
  | ((apply AOps.splitP; exact rfl; exact rfl) <;> intro h)
  | ((apply AOps.splitN; exact rfl; exact rfl) <;> intro h)
  | (apply w_move; exact rfl; exact rfl)
  | (apply w_assign; exact rfl; exact rfl)
  | apply AWp.seq
  | apply AWp.region
  | ((apply AWp.condP; exact rfl) <;> intro h)
  | ((apply AWp.condN; exact rfl) <;> intro h)
  | (apply AWp.condT; exact rfl)
  | (apply AWp.condF; exact rfl)
  | ((apply AWp.condB; exact rfl) <;> intro h)
  | apply AWp.block
  | apply AWp.ret
  | apply AWp.exit
  | apply AWp.skip
  | (apply AWp.regionQ; kernel_rfl; kernel_rfl)
  | (apply if_pos'; exact rfl)
  | (apply if_neg'; decide)
  | (apply w_skip; exact rfl)
  | (apply w_pickT; exact rfl; exact rfl; exact rfl)
  | (apply w_pickF; exact rfl; exact rfl; exact rfl)
  | (apply w_len; exact rfl; exact rfl; first | exact .ints _ | exact .intss _ | exact .sli rfl | exact .sls rfl | exact .slr rfl | exact .orow rfl | exact .nil)
  | (apply w_call (szInt64S_c _ _ (show -1 ≤ l by omega) a2); exact rfl; exact rfl; focus ((repeat (first | exact im_nil | refine im_cons rfl (.val _) ?_ | refine im_cons rfl (.ints _) ?_ | refine im_cons rfl (.intss _) ?_ | refine im_cons rfl (.sli rfl) ?_ | refine im_cons rfl (.sls rfl) ?_ | refine im_cons rfl (.orow rfl) ?_ | refine im_cons rfl (.osub rfl (by simp; omega)) ?_ | refine im_cons rfl (.nil) ?_ | refine im_cons rfl (.nils) ?_ | refine im_cons rfl (im_agg2 (.val _) (.ints _)) ?_ | refine im_cons rfl (im_agg2 (.val _) (.sli rfl)) ?_ | refine im_cons rfl (im_agg2 (.val _) (.nil)) ?_ | refine im_cons rfl (im_agg2 (.ints _) (.intss _)) ?_ | refine im_cons rfl (im_agg2 (.ints _) (.sls rfl)) ?_ | refine im_cons rfl (im_agg2 (.sli rfl) (.intss _)) ?_ | refine im_cons rfl (im_agg2 (.sli rfl) (.sls rfl)) ?_ | refine im_cons rfl (im_agg1 (.ints _)) ?_ | refine im_cons rfl (im_agg1 (.sli rfl)) ?_ | refine im_cons rfl (im_agg1 (.intss _)) ?_ | refine im_cons rfl (im_agg1 (.sls rfl)) ?_ | refine im_cons rfl (im_agg1 (.nil)) ?_ | refine im_cons rfl (im_agg1 (.nils)) ?_)); done))
  | ((first | apply w_lss | apply w_leq | apply w_gtr | apply w_geq | apply w_eql | apply w_neq | apply w_add | apply w_sub | apply w_mul | apply w_idx | apply w_ld | apply w_fld | apply w_fa | apply w_extv | apply w_min | apply w_max | apply w_slhi | apply w_sllo | apply w_bs2); iterate 3 exact rfl)
  | ((first | apply w_eqlb | apply w_neqb | apply w_idxs | apply w_lds | apply w_ext); iterate 3 exact rfl)
  | (apply w_rem; exact rfl; exact rfl; exact rfl; (focus (omega; done)); (focus (omega; done)))
  | (apply w_quo; exact rfl; exact rfl; exact rfl; (focus (omega; done)); (focus (omega; done)))
  | (apply w_remT; exact rfl; exact rfl; exact rfl)
  | (apply w_quoT; exact rfl; exact rfl; exact rfl)
  | ((first | apply w_not | apply w_neg | apply w_conv | apply w_build0 | apply w_bs1 | apply w_boxa); iterate 2 exact rfl)
  | (apply w_idxo; exact rfl; exact rfl; (first | exact .sli rfl | exact .sls rfl | exact .slr rfl); exact rfl)
  | ((first | apply w_idxr | apply w_ldr); iterate 4 exact rfl)
  | (apply w_ldo; iterate 4 exact rfl)
  | (apply w_ldls; iterate 4 exact rfl)
  | (apply w_ldrp; iterate 4 exact rfl)
  | (apply w_ldb; iterate 5 exact rfl)
  | (apply w_ldst; iterate 5 exact rfl)
  | ((first | apply w_sllh | apply w_stbi); iterate 4 exact rfl)
  | ((first | apply w_oslo | apply w_oshi | apply w_stbii); iterate 4 exact rfl)
  | (apply w_copy; exact rfl; (first | exact .own rfl rfl rfl | exact .osub); exact rfl; rotate_left 1; exact rfl; (first | exact .ints _ | exact .sli rfl | exact .orow rfl | exact .nil | exact .osub rfl (by simp; omega)))
  | (apply w_build1; exact rfl; exact rfl; (first | exact one_val rfl rfl | exact one_ints | exact one_intss | exact one_own rfl True.intro))
  | (apply w_build2; exact rfl; exact rfl; exact rfl; (first | exact one_val rfl rfl | exact one_ints | exact one_intss | exact one_own rfl True.intro); (first | exact one_val rfl rfl | exact one_ints | exact one_intss | exact one_own rfl True.intro))
  | (apply w_bs0; iterate 1 exact rfl)
  | (apply w_appn; exact rfl; exact rfl; (first | exact .ints _ | exact .sli rfl | exact .orow rfl | exact .nil | exact .osub rfl (by simp; omega)); exact rfl)
  | (apply w_app; exact rfl; exact rfl; exact rfl; exact rfl; (first | exact .ints _ | exact .sli rfl | exact .orow rfl | exact .nil | exact .osub rfl (by simp; omega)); rotate_left 1; simp only [Env.mp, List.map_cons, List.map_nil, List.set_cons_zero, List.set_cons_succ, AV.kill, AV.kill1, AO.kill, AV.noRow, AV.noRow1, AO.via, reduceIte, Nat.reduceEqDiff, Nat.reduceLT, Env.up, Nat.zero_ne_one, Nat.one_ne_zero, Nat.reduceAdd, List.cons_append, List.nil_append]; rotate_left 1)
  | (apply w_alst; iterate 2 exact rfl)
  | (apply w_alone; iterate 3 exact rfl)
  | (apply w_mki; exact rfl; exact rfl; rotate_left 3; exact rfl; rotate_left 1)
  | (apply w_mkr; exact rfl; exact rfl; rotate_left 3; exact rfl; rotate_left 1)
  | (apply w_strow; exact rfl; exact rfl; rotate_left 1; exact rfl; exact rfl; exact rfl; exact rfl; simp only [Env.mp, List.map_cons, List.map_nil, List.set_cons_zero, List.set_cons_succ, AV.kill, AV.kill1, AO.kill, AV.noRow, AV.noRow1, AO.via, reduceIte, Nat.reduceEqDiff, Nat.reduceLT, Env.up, Nat.zero_ne_one, Nat.one_ne_zero, Nat.reduceAdd, List.cons_append, List.nil_append]; rotate_left 1)
  | (apply w_sti; exact rfl; exact rfl; rotate_left 1; exact rfl; rotate_left 2)
  | (apply w_stst; iterate 5 exact rfl)
  | (apply w_stbv; iterate 6 exact rfl)
  | (apply w_stbo; exact rfl; exact rfl; exact rfl; exact rfl; exact rfl; exact True.intro)
  | ((apply AOps.splitB; exact rfl; exact rfl) <;> intro h)
  | apply AllOf.nil
  | (apply AllOf.cons; exact rfl)
  | (apply AAny.take; exact rfl; exact rfl; kernel_rfl; kernel_rfl)
  | (apply AAny.all; exact rfl)
  | (apply AAny.done; exact rfl)
  | (apply inI_of <;> omega)
  | omega
  | (simp <;> omega))
  · rw [drop_gets (by omega)] at a3
    exact .int Try.results6 rfl (by rw [← a3]; simp [szR, h])
  · rw [drop_gets (by omega)] at a3
    have e1 : szI (gets xss i) l = l - (gets xss i).length := by unfold szI at h ⊢; split <;> simp_all
    exact ⟨(i + 1, szI (gets xss i) l), ⟨by simp only; omega, by simp only; omega, by simp only; omega, by simp only; rw [← a3]; simp [szR, h]⟩, by simp only; omega, ⟨lee rfl (by (repeat (first | exact le_nil | refine le_eq rfl rfl ?_ | refine le_eq rfl (congrArg AV.i (by omega)) ?_))), by (repeat (first | exact lo_nil | refine lo_dead ?_ | refine lo_eq rfl ?_)), rfl, rfl⟩⟩
  · have e : i = xss.length := by omega
    subst e
    exact .int Try.results6 rfl (by rw [← a3]; simp [szR])

theorem take_set_snocs (xs : List (List Int)) (i : Nat) (h : i < xs.length) : (xs.take i ++ List.replicate (xs.length - i) []).set i (gets xs i) = xs.take (i + 1) ++ List.replicate (xs.length - (i + 1)) [] := by
  rw [List.set_append_right _ _ (by simp; omega), List.length_take, Nat.min_eq_left (by omega), Nat.sub_self, show xs.length - i = (xs.length - (i + 1)) + 1 by omega, List.replicate_succ, List.set_cons_zero, List.take_succ_eq_append_getElem h, show gets xs i = xs[i] by simp [gets, h]]
  simp only [List.append_assoc, List.cons_append, List.nil_append]

/-- The new slice of rows that a function hands back alone. -/
def IsIntss (e e2 : TypeId) (xss : List (List Int)) (r : AV) (os : List AO) : Prop := r = .own 0 ∧ os = [.sls e e2 xss]

theorem toInt64SS_c (xss : List (List Int)) (hb : xss.length ≤ 1048576) (hr : ∀ xs ∈ xss, xs.length ≤ 1048576) : AFn Try.prog 8 [.intss xss] (IsIntss 31 2 xss) := by
  (refine AFn.start Try.func8 Try.ntmps8 rfl (by kernel_rfl) fun hk => ?_; simp only [Env.start, enumF, List.length_cons, List.length_nil, Nat.reduceAdd, Nat.reduceSub, List.cons_append, List.nil_append])
  repeat' (first
  | (apply AOps.nil; try simp only [List.nil_append, List.cons_append, List.set_cons_zero, List.set_cons_succ, List.length_cons, List.length_nil, Nat.reduceAdd, AV.sh, AV.sh1, AV.sh0, AO.sh, List.map_cons, List.map_nil, Nat.zero_add, Nat.add_zero, setAll])
  | ((apply AOps.splitP; exact rfl; exact rfl) <;> intro h)
  | ((apply AOps.splitN; exact rfl; exact rfl) <;> intro h)
  | (apply w_move; exact rfl; exact rfl)
  | (apply w_assign; exact rfl; exact rfl)
  | apply AWp.seq
  | apply AWp.region
  | ((apply AWp.condP; exact rfl) <;> intro h)
  | ((apply AWp.condN; exact rfl) <;> intro h)
  | (apply AWp.condT; exact rfl)
  | (apply AWp.condF; exact rfl)
  | ((apply AWp.condB; exact rfl) <;> intro h)
  | apply AWp.block
  | apply AWp.ret
  | apply AWp.exit
  | apply AWp.skip
  | (apply AWp.regionQ; kernel_rfl; kernel_rfl)
  | (apply if_pos'; exact rfl)
  | (apply if_neg'; decide)
  | (apply w_skip; exact rfl)
  | (apply w_pickT; exact rfl; exact rfl; exact rfl)
  | (apply w_pickF; exact rfl; exact rfl; exact rfl)
  | (apply w_len; exact rfl; exact rfl; first | exact .ints _ | exact .intss _ | exact .sli rfl | exact .sls rfl | exact .slr rfl | exact .orow rfl | exact .nil)
  | ((first | apply w_lss | apply w_leq | apply w_gtr | apply w_geq | apply w_eql | apply w_neq | apply w_add | apply w_sub | apply w_mul | apply w_idx | apply w_ld | apply w_fld | apply w_fa | apply w_extv | apply w_min | apply w_max | apply w_slhi | apply w_sllo | apply w_bs2); iterate 3 exact rfl)
  | ((first | apply w_eqlb | apply w_neqb | apply w_idxs | apply w_lds | apply w_ext); iterate 3 exact rfl)
  | (apply w_rem; exact rfl; exact rfl; exact rfl; (focus (omega; done)); (focus (omega; done)))
  | (apply w_quo; exact rfl; exact rfl; exact rfl; (focus (omega; done)); (focus (omega; done)))
  | (apply w_remT; exact rfl; exact rfl; exact rfl)
  | (apply w_quoT; exact rfl; exact rfl; exact rfl)
  | ((first | apply w_not | apply w_neg | apply w_conv | apply w_build0 | apply w_bs1 | apply w_boxa); iterate 2 exact rfl)
  | (apply w_idxo; exact rfl; exact rfl; (first | exact .sli rfl | exact .sls rfl | exact .slr rfl); exact rfl)
  | ((first | apply w_idxr | apply w_ldr); iterate 4 exact rfl)
  | (apply w_ldo; iterate 4 exact rfl)
  | (apply w_ldls; iterate 4 exact rfl)
  | (apply w_ldrp; iterate 4 exact rfl)
  | (apply w_ldb; iterate 5 exact rfl)
  | (apply w_ldst; iterate 5 exact rfl)
  | ((first | apply w_sllh | apply w_stbi); iterate 4 exact rfl)
  | ((first | apply w_oslo | apply w_oshi | apply w_stbii); iterate 4 exact rfl)
  | (apply w_copy; exact rfl; (first | exact .own rfl rfl rfl | exact .osub); exact rfl; rotate_left 1; exact rfl; (first | exact .ints _ | exact .sli rfl | exact .orow rfl | exact .nil | exact .osub rfl (by simp; omega)))
  | (apply w_build1; exact rfl; exact rfl; (first | exact one_val rfl rfl | exact one_ints | exact one_intss | exact one_own rfl True.intro))
  | (apply w_build2; exact rfl; exact rfl; exact rfl; (first | exact one_val rfl rfl | exact one_ints | exact one_intss | exact one_own rfl True.intro); (first | exact one_val rfl rfl | exact one_ints | exact one_intss | exact one_own rfl True.intro))
  | (apply w_bs0; iterate 1 exact rfl)
  | (apply w_appn; exact rfl; exact rfl; (first | exact .ints _ | exact .sli rfl | exact .orow rfl | exact .nil | exact .osub rfl (by simp; omega)); exact rfl)
  | (apply w_app; exact rfl; exact rfl; exact rfl; exact rfl; (first | exact .ints _ | exact .sli rfl | exact .orow rfl | exact .nil | exact .osub rfl (by simp; omega)); rotate_left 1; simp only [Env.mp, List.map_cons, List.map_nil, List.set_cons_zero, List.set_cons_succ, AV.kill, AV.kill1, AO.kill, AV.noRow, AV.noRow1, AO.via, reduceIte, Nat.reduceEqDiff, Nat.reduceLT, Env.up, Nat.zero_ne_one, Nat.one_ne_zero, Nat.reduceAdd, List.cons_append, List.nil_append]; rotate_left 1)
  | (apply w_alst; iterate 2 exact rfl)
  | (apply w_alone; iterate 3 exact rfl)
  | (apply w_mki; exact rfl; exact rfl; rotate_left 3; exact rfl; rotate_left 1)
  | (apply w_mkr; exact rfl; exact rfl; rotate_left 3; exact rfl; rotate_left 1)
  | (apply w_strow; exact rfl; exact rfl; rotate_left 1; exact rfl; exact rfl; exact rfl; exact rfl; simp only [Env.mp, List.map_cons, List.map_nil, List.set_cons_zero, List.set_cons_succ, AV.kill, AV.kill1, AO.kill, AV.noRow, AV.noRow1, AO.via, reduceIte, Nat.reduceEqDiff, Nat.reduceLT, Env.up, Nat.zero_ne_one, Nat.one_ne_zero, Nat.reduceAdd, List.cons_append, List.nil_append]; rotate_left 1)
  | (apply w_sti; exact rfl; exact rfl; rotate_left 1; exact rfl; rotate_left 2)
  | (apply w_stst; iterate 5 exact rfl)
  | (apply w_stbv; iterate 6 exact rfl)
  | (apply w_stbo; exact rfl; exact rfl; exact rfl; exact rfl; exact rfl; exact True.intro)
  | ((apply AOps.splitB; exact rfl; exact rfl) <;> intro h)
  | apply AllOf.nil
  | (apply AllOf.cons; exact rfl)
  | (apply AAny.take; exact rfl; exact rfl; kernel_rfl; kernel_rfl)
  | (apply AAny.all; exact rfl)
  | (apply AAny.done; exact rfl)
  | (apply inI_of <;> omega)
  | omega
  | (simp <;> omega))
  refine AWp.loop (ι := Nat) (fun i => ⟨23, [(0, .intss xss), (3, .own 0), (4, .i i)]⟩) (fun i => [.sls 31 2 (xss.take i ++ List.replicate (xss.length - i) [])]) (fun i => i ≤ xss.length) (fun i => xss.length - i) 0 (by omega) ⟨lee rfl (by (repeat (first | exact le_nil | refine le_eq rfl rfl ?_))), lo_eq (by simp) lo_nil, rfl, rfl⟩ ?_
  rintro i h0
  have e1 : (xss.take i ++ List.replicate (xss.length - i) []).length = xss.length := by simp; omega
  have hb2 : (gets xss i).length ≤ 1048576 := by
    by_cases hi : i < xss.length
    · exact hr _ (gets_mem (by omega) (by omega))
    · simp [gets, List.getElem?_eq_none (show xss.length ≤ i by omega)]
  repeat' (first
  | (apply AOps.nil; try simp only [List.nil_append, List.cons_append, List.set_cons_zero, List.set_cons_succ, List.length_cons, List.length_nil, Nat.reduceAdd, AV.sh, AV.sh1, AV.sh0, AO.sh, List.map_cons, List.map_nil, Nat.zero_add, Nat.add_zero, setAll])
  | ((apply AOps.splitP; exact rfl; exact rfl) <;> intro h)
  | ((apply AOps.splitN; exact rfl; exact rfl) <;> intro h)
  | (apply w_move; exact rfl; exact rfl)
  | (apply w_assign; exact rfl; exact rfl)
  | apply AWp.seq
  | apply AWp.region
  | ((apply AWp.condP; exact rfl) <;> intro h)
  | ((apply AWp.condN; exact rfl) <;> intro h)
  | (apply AWp.condT; exact rfl)
  | (apply AWp.condF; exact rfl)
  | ((apply AWp.condB; exact rfl) <;> intro h)
  | apply AWp.block
  | apply AWp.ret
  | apply AWp.exit
  | apply AWp.skip
  | (apply AWp.regionQ; kernel_rfl; kernel_rfl)
  | (apply if_pos'; exact rfl)
  | (apply if_neg'; decide)
  | (apply w_skip; exact rfl)
  | (apply w_pickT; exact rfl; exact rfl; exact rfl)
  | (apply w_pickF; exact rfl; exact rfl; exact rfl)
  | (apply w_len; exact rfl; exact rfl; first | exact .ints _ | exact .intss _ | exact .sli rfl | exact .sls rfl | exact .slr rfl | exact .orow rfl | exact .nil)
  | (apply w_callm (toInt64S_c _ hb2); (focus ((repeat (first | exact im_nil | refine im_cons rfl (.val _) ?_ | refine im_cons rfl (.ints _) ?_ | refine im_cons rfl (.intss _) ?_ | refine im_cons rfl (.sli rfl) ?_ | refine im_cons rfl (.sls rfl) ?_ | refine im_cons rfl (.orow rfl) ?_ | refine im_cons rfl (.osub rfl (by simp; omega)) ?_ | refine im_cons rfl (.nil) ?_ | refine im_cons rfl (.nils) ?_ | refine im_cons rfl (im_agg2 (.val _) (.ints _)) ?_ | refine im_cons rfl (im_agg2 (.val _) (.sli rfl)) ?_ | refine im_cons rfl (im_agg2 (.val _) (.nil)) ?_ | refine im_cons rfl (im_agg2 (.ints _) (.intss _)) ?_ | refine im_cons rfl (im_agg2 (.ints _) (.sls rfl)) ?_ | refine im_cons rfl (im_agg2 (.sli rfl) (.intss _)) ?_ | refine im_cons rfl (im_agg2 (.sli rfl) (.sls rfl)) ?_ | refine im_cons rfl (im_agg1 (.ints _)) ?_ | refine im_cons rfl (im_agg1 (.sli rfl)) ?_ | refine im_cons rfl (im_agg1 (.intss _)) ?_ | refine im_cons rfl (im_agg1 (.sls rfl)) ?_ | refine im_cons rfl (im_agg1 (.nil)) ?_ | refine im_cons rfl (im_agg1 (.nils)) ?_)); done)); rintro r os0 ⟨rfl, rfl⟩; try simp only [List.nil_append, List.cons_append, List.set_cons_zero, List.set_cons_succ, List.length_cons, List.length_nil, Nat.reduceAdd, AV.sh, AV.sh1, AV.sh0, AO.sh, List.map_cons, List.map_nil, Nat.zero_add, Nat.add_zero, setAll])
  | ((first | apply w_lss | apply w_leq | apply w_gtr | apply w_geq | apply w_eql | apply w_neq | apply w_add | apply w_sub | apply w_mul | apply w_idx | apply w_ld | apply w_fld | apply w_fa | apply w_extv | apply w_min | apply w_max | apply w_slhi | apply w_sllo | apply w_bs2); iterate 3 exact rfl)
  | ((first | apply w_eqlb | apply w_neqb | apply w_idxs | apply w_lds | apply w_ext); iterate 3 exact rfl)
  | (apply w_rem; exact rfl; exact rfl; exact rfl; (focus (omega; done)); (focus (omega; done)))
  | (apply w_quo; exact rfl; exact rfl; exact rfl; (focus (omega; done)); (focus (omega; done)))
  | (apply w_remT; exact rfl; exact rfl; exact rfl)
  | (apply w_quoT; exact rfl; exact rfl; exact rfl)
  | ((first | apply w_not | apply w_neg | apply w_conv | apply w_build0 | apply w_bs1 | apply w_boxa); iterate 2 exact rfl)
  | (apply w_idxo; exact rfl; exact rfl; (first | exact .sli rfl | exact .sls rfl | exact .slr rfl); exact rfl)
  | ((first | apply w_idxr | apply w_ldr); iterate 4 exact rfl)
  | (apply w_ldo; iterate 4 exact rfl)
  | (apply w_ldls; iterate 4 exact rfl)
  | (apply w_ldrp; iterate 4 exact rfl)
  | (apply w_ldb; iterate 5 exact rfl)
  | (apply w_ldst; iterate 5 exact rfl)
  | ((first | apply w_sllh | apply w_stbi); iterate 4 exact rfl)
  | ((first | apply w_oslo | apply w_oshi | apply w_stbii); iterate 4 exact rfl)
  | (apply w_copy; exact rfl; (first | exact .own rfl rfl rfl | exact .osub); exact rfl; rotate_left 1; exact rfl; (first | exact .ints _ | exact .sli rfl | exact .orow rfl | exact .nil | exact .osub rfl (by simp; omega)))
  | (apply w_build1; exact rfl; exact rfl; (first | exact one_val rfl rfl | exact one_ints | exact one_intss | exact one_own rfl True.intro))
  | (apply w_build2; exact rfl; exact rfl; exact rfl; (first | exact one_val rfl rfl | exact one_ints | exact one_intss | exact one_own rfl True.intro); (first | exact one_val rfl rfl | exact one_ints | exact one_intss | exact one_own rfl True.intro))
  | (apply w_bs0; iterate 1 exact rfl)
  | (apply w_appn; exact rfl; exact rfl; (first | exact .ints _ | exact .sli rfl | exact .orow rfl | exact .nil | exact .osub rfl (by simp; omega)); exact rfl)
  | (apply w_app; exact rfl; exact rfl; exact rfl; exact rfl; (first | exact .ints _ | exact .sli rfl | exact .orow rfl | exact .nil | exact .osub rfl (by simp; omega)); rotate_left 1; simp only [Env.mp, List.map_cons, List.map_nil, List.set_cons_zero, List.set_cons_succ, AV.kill, AV.kill1, AO.kill, AV.noRow, AV.noRow1, AO.via, reduceIte, Nat.reduceEqDiff, Nat.reduceLT, Env.up, Nat.zero_ne_one, Nat.one_ne_zero, Nat.reduceAdd, List.cons_append, List.nil_append]; rotate_left 1)
  | (apply w_alst; iterate 2 exact rfl)
  | (apply w_alone; iterate 3 exact rfl)
  | (apply w_mki; exact rfl; exact rfl; rotate_left 3; exact rfl; rotate_left 1)
  | (apply w_mkr; exact rfl; exact rfl; rotate_left 3; exact rfl; rotate_left 1)
  | (apply w_strow; exact rfl; exact rfl; rotate_left 1; exact rfl; exact rfl; exact rfl; exact rfl; simp only [Env.mp, List.map_cons, List.map_nil, List.set_cons_zero, List.set_cons_succ, AV.kill, AV.kill1, AO.kill, AV.noRow, AV.noRow1, AO.via, reduceIte, Nat.reduceEqDiff, Nat.reduceLT, Env.up, Nat.zero_ne_one, Nat.one_ne_zero, Nat.reduceAdd, List.cons_append, List.nil_append]; rotate_left 1)
  | (apply w_sti; exact rfl; exact rfl; rotate_left 1; exact rfl; rotate_left 2)
  | (apply w_stst; iterate 5 exact rfl)
  | (apply w_stbv; iterate 6 exact rfl)
  | (apply w_stbo; exact rfl; exact rfl; exact rfl; exact rfl; exact rfl; exact True.intro)
  | ((apply AOps.splitB; exact rfl; exact rfl) <;> intro h)
  | apply AllOf.nil
  | (apply AllOf.cons; exact rfl)
  | (apply AAny.take; exact rfl; exact rfl; kernel_rfl; kernel_rfl)
  | (apply AAny.all; exact rfl)
  | (apply AAny.done; exact rfl)
  | (apply inI_of <;> omega)
  | omega
  | (simp <;> omega))
  · have e2 := take_set_snocs xss i (by omega)
    have e3 : (xss.take i ++ List.replicate (xss.length - i) []).set ((i : Int)).toNat (gets xss i) = xss.take (i + 1) ++ List.replicate (xss.length - (i + 1)) [] := e2
    exact ⟨i + 1, by omega, by omega, ⟨lee rfl (by (repeat (first | exact le_nil | refine le_eq rfl rfl ?_ | refine le_eq rfl (congrArg AV.i (by omega)) ?_ | refine le_eq rfl (congrArg AV.i (e3)) ?_))), by (repeat (first | exact lo_nil | refine lo_dead ?_ | refine lo_eq rfl ?_ | refine lo_eq (congrArg (AO.sli _) (e3)) ?_ | refine lo_eq (congrArg (AO.sls _ _) (e3)) ?_)), rfl, rfl⟩⟩
  · have e : i = xss.length := by omega
    subst e
    exact ⟨_, _, _, .v1 Try.results8 rfl, .sls rfl, rfl, by simp⟩

theorem eqInt64SS_c (xss yss : List (List Int)) : AFnV Try.prog 10 [.intss xss, .intss yss] (.bool (decide (xss = yss))) := by
  (refine AFnV.start Try.func10 Try.ntmps10 rfl (by kernel_rfl) fun hk0 => ?_; simp only [Env.start, enumF, List.length_cons, List.length_nil, Nat.reduceAdd, Nat.reduceSub, List.cons_append, List.nil_append])
  obtain ⟨hk, hl⟩ : ArgOk (.intss xss) := hk0 _ (by simp)
  repeat' (first
  | (apply AOps.nil; try simp only [List.nil_append, List.cons_append, List.set_cons_zero, List.set_cons_succ, List.length_cons, List.length_nil, Nat.reduceAdd, AV.sh, AV.sh1, AV.sh0, AO.sh, List.map_cons, List.map_nil, Nat.zero_add, Nat.add_zero, setAll])
  | ((apply AOps.splitP; exact rfl; exact rfl) <;> intro h)
  | ((apply AOps.splitN; exact rfl; exact rfl) <;> intro h)
  | (apply w_move; exact rfl; exact rfl)
  | (apply w_assign; exact rfl; exact rfl)
  | apply AWp.seq
  | apply AWp.region
  | ((apply AWp.condP; exact rfl) <;> intro h)
  | ((apply AWp.condN; exact rfl) <;> intro h)
  | (apply AWp.condT; exact rfl)
  | (apply AWp.condF; exact rfl)
  | ((apply AWp.condB; exact rfl) <;> intro h)
  | apply AWp.block
  | apply AWp.ret
  | apply AWp.exit
  | apply AWp.skip
  | (apply AWp.regionQ; kernel_rfl; kernel_rfl)
  | (apply if_pos'; exact rfl)
  | (apply if_neg'; decide)
  | (apply w_skip; exact rfl)
  | (apply w_pickT; exact rfl; exact rfl; exact rfl)
  | (apply w_pickF; exact rfl; exact rfl; exact rfl)
  | (apply w_len; exact rfl; exact rfl; first | exact .ints _ | exact .intss _ | exact .sli rfl | exact .sls rfl | exact .slr rfl | exact .orow rfl | exact .nil)
  | ((first | apply w_lss | apply w_leq | apply w_gtr | apply w_geq | apply w_eql | apply w_neq | apply w_add | apply w_sub | apply w_mul | apply w_idx | apply w_ld | apply w_fld | apply w_fa | apply w_extv | apply w_min | apply w_max | apply w_slhi | apply w_sllo | apply w_bs2); iterate 3 exact rfl)
  | ((first | apply w_eqlb | apply w_neqb | apply w_idxs | apply w_lds | apply w_ext); iterate 3 exact rfl)
  | (apply w_rem; exact rfl; exact rfl; exact rfl; (focus (omega; done)); (focus (omega; done)))
  | (apply w_quo; exact rfl; exact rfl; exact rfl; (focus (omega; done)); (focus (omega; done)))
  | (apply w_remT; exact rfl; exact rfl; exact rfl)
  | (apply w_quoT; exact rfl; exact rfl; exact rfl)
  | ((first | apply w_not | apply w_neg | apply w_conv | apply w_build0 | apply w_bs1 | apply w_boxa); iterate 2 exact rfl)
  | (apply w_idxo; exact rfl; exact rfl; (first | exact .sli rfl | exact .sls rfl | exact .slr rfl); exact rfl)
  | ((first | apply w_idxr | apply w_ldr); iterate 4 exact rfl)
  | (apply w_ldo; iterate 4 exact rfl)
  | (apply w_ldls; iterate 4 exact rfl)
  | (apply w_ldrp; iterate 4 exact rfl)
  | (apply w_ldb; iterate 5 exact rfl)
  | (apply w_ldst; iterate 5 exact rfl)
  | ((first | apply w_sllh | apply w_stbi); iterate 4 exact rfl)
  | ((first | apply w_oslo | apply w_oshi | apply w_stbii); iterate 4 exact rfl)
  | (apply w_copy; exact rfl; (first | exact .own rfl rfl rfl | exact .osub); exact rfl; rotate_left 1; exact rfl; (first | exact .ints _ | exact .sli rfl | exact .orow rfl | exact .nil | exact .osub rfl (by simp; omega)))
  | (apply w_build1; exact rfl; exact rfl; (first | exact one_val rfl rfl | exact one_ints | exact one_intss | exact one_own rfl True.intro))
  | (apply w_build2; exact rfl; exact rfl; exact rfl; (first | exact one_val rfl rfl | exact one_ints | exact one_intss | exact one_own rfl True.intro); (first | exact one_val rfl rfl | exact one_ints | exact one_intss | exact one_own rfl True.intro))
  | (apply w_bs0; iterate 1 exact rfl)
  | (apply w_appn; exact rfl; exact rfl; (first | exact .ints _ | exact .sli rfl | exact .orow rfl | exact .nil | exact .osub rfl (by simp; omega)); exact rfl)
  | (apply w_app; exact rfl; exact rfl; exact rfl; exact rfl; (first | exact .ints _ | exact .sli rfl | exact .orow rfl | exact .nil | exact .osub rfl (by simp; omega)); rotate_left 1; simp only [Env.mp, List.map_cons, List.map_nil, List.set_cons_zero, List.set_cons_succ, AV.kill, AV.kill1, AO.kill, AV.noRow, AV.noRow1, AO.via, reduceIte, Nat.reduceEqDiff, Nat.reduceLT, Env.up, Nat.zero_ne_one, Nat.one_ne_zero, Nat.reduceAdd, List.cons_append, List.nil_append]; rotate_left 1)
  | (apply w_alst; iterate 2 exact rfl)
  | (apply w_alone; iterate 3 exact rfl)
  | (apply w_mki; exact rfl; exact rfl; rotate_left 3; exact rfl; rotate_left 1)
  | (apply w_mkr; exact rfl; exact rfl; rotate_left 3; exact rfl; rotate_left 1)
  | (apply w_strow; exact rfl; exact rfl; rotate_left 1; exact rfl; exact rfl; exact rfl; exact rfl; simp only [Env.mp, List.map_cons, List.map_nil, List.set_cons_zero, List.set_cons_succ, AV.kill, AV.kill1, AO.kill, AV.noRow, AV.noRow1, AO.via, reduceIte, Nat.reduceEqDiff, Nat.reduceLT, Env.up, Nat.zero_ne_one, Nat.one_ne_zero, Nat.reduceAdd, List.cons_append, List.nil_append]; rotate_left 1)
  | (apply w_sti; exact rfl; exact rfl; rotate_left 1; exact rfl; rotate_left 2)
  | (apply w_stst; iterate 5 exact rfl)
  | (apply w_stbv; iterate 6 exact rfl)
  | (apply w_stbo; exact rfl; exact rfl; exact rfl; exact rfl; exact rfl; exact True.intro)
  | ((apply AOps.splitB; exact rfl; exact rfl) <;> intro h)
  | apply AllOf.nil
  | (apply AllOf.cons; exact rfl)
  | (apply AAny.take; exact rfl; exact rfl; kernel_rfl; kernel_rfl)
  | (apply AAny.all; exact rfl)
  | (apply AAny.done; exact rfl)
  | (apply inI_of <;> omega)
  | omega
  | (simp <;> omega))
  · exact .bool Try.results10 rfl (by simp; intro e; subst e; simp at h)
  refine AWp.loop (ι := Nat) (fun i => ⟨27, [(0, .intss xss), (1, .intss yss), (5, .i i)]⟩) (fun _ => []) (fun i => i ≤ xss.length ∧ xss.take i = yss.take i) (fun i => xss.length - i) 0 ⟨by omega, by simp⟩ ⟨lee rfl (by (repeat (first | exact le_nil | refine le_eq rfl rfl ?_ | refine le_eq rfl (congrArg AV.i (by omega)) ?_))), by (repeat (first | exact lo_nil | refine lo_dead ?_ | refine lo_eq rfl ?_)), rfl, rfl⟩ ?_
  rintro i ⟨h0, h1⟩
  have hlen : xss.length = yss.length := by omega
  repeat' (first
  | (apply AOps.nil; try simp only [List.nil_append, List.cons_append, List.set_cons_zero, List.set_cons_succ, List.length_cons, List.length_nil, Nat.reduceAdd, AV.sh, AV.sh1, AV.sh0, AO.sh, List.map_cons, List.map_nil, Nat.zero_add, Nat.add_zero, setAll])
  | ((apply AOps.splitP; exact rfl; exact rfl) <;> intro h)
  | ((apply AOps.splitN; exact rfl; exact rfl) <;> intro h)
  | (apply w_move; exact rfl; exact rfl)
  | (apply w_assign; exact rfl; exact rfl)
  | apply AWp.seq
  | apply AWp.region
  | ((apply AWp.condP; exact rfl) <;> intro h)
  | ((apply AWp.condN; exact rfl) <;> intro h)
  | (apply AWp.condT; exact rfl)
  | (apply AWp.condF; exact rfl)
  | ((apply AWp.condB; exact rfl) <;> intro h)
  | apply AWp.block
  | apply AWp.ret
  | apply AWp.exit
  | apply AWp.skip
  | (apply AWp.regionQ; kernel_rfl; kernel_rfl)
  | (apply if_pos'; exact rfl)
  | (apply if_neg'; decide)
  | (apply w_skip; exact rfl)
  | (apply w_pickT; exact rfl; exact rfl; exact rfl)
  | (apply w_pickF; exact rfl; exact rfl; exact rfl)
  | (apply w_len; exact rfl; exact rfl; first | exact .ints _ | exact .intss _ | exact .sli rfl | exact .sls rfl | exact .slr rfl | exact .orow rfl | exact .nil)
  | (apply w_call (eqInt64S_c _ _); exact rfl; exact rfl; focus ((repeat (first | exact im_nil | refine im_cons rfl (.val _) ?_ | refine im_cons rfl (.ints _) ?_ | refine im_cons rfl (.intss _) ?_ | refine im_cons rfl (.sli rfl) ?_ | refine im_cons rfl (.sls rfl) ?_ | refine im_cons rfl (.orow rfl) ?_ | refine im_cons rfl (.osub rfl (by simp; omega)) ?_ | refine im_cons rfl (.nil) ?_ | refine im_cons rfl (.nils) ?_ | refine im_cons rfl (im_agg2 (.val _) (.ints _)) ?_ | refine im_cons rfl (im_agg2 (.val _) (.sli rfl)) ?_ | refine im_cons rfl (im_agg2 (.val _) (.nil)) ?_ | refine im_cons rfl (im_agg2 (.ints _) (.intss _)) ?_ | refine im_cons rfl (im_agg2 (.ints _) (.sls rfl)) ?_ | refine im_cons rfl (im_agg2 (.sli rfl) (.intss _)) ?_ | refine im_cons rfl (im_agg2 (.sli rfl) (.sls rfl)) ?_ | refine im_cons rfl (im_agg1 (.ints _)) ?_ | refine im_cons rfl (im_agg1 (.sli rfl)) ?_ | refine im_cons rfl (im_agg1 (.intss _)) ?_ | refine im_cons rfl (im_agg1 (.sls rfl)) ?_ | refine im_cons rfl (im_agg1 (.nil)) ?_ | refine im_cons rfl (im_agg1 (.nils)) ?_)); done))
  | ((first | apply w_lss | apply w_leq | apply w_gtr | apply w_geq | apply w_eql | apply w_neq | apply w_add | apply w_sub | apply w_mul | apply w_idx | apply w_ld | apply w_fld | apply w_fa | apply w_extv | apply w_min | apply w_max | apply w_slhi | apply w_sllo | apply w_bs2); iterate 3 exact rfl)
  | ((first | apply w_eqlb | apply w_neqb | apply w_idxs | apply w_lds | apply w_ext); iterate 3 exact rfl)
  | (apply w_rem; exact rfl; exact rfl; exact rfl; (focus (omega; done)); (focus (omega; done)))
  | (apply w_quo; exact rfl; exact rfl; exact rfl; (focus (omega; done)); (focus (omega; done)))
  | (apply w_remT; exact rfl; exact rfl; exact rfl)
  | (apply w_quoT; exact rfl; exact rfl; exact rfl)
  | ((first | apply w_not | apply w_neg | apply w_conv | apply w_build0 | apply w_bs1 | apply w_boxa); iterate 2 exact rfl)
  | (apply w_idxo; exact rfl; exact rfl; (first | exact .sli rfl | exact .sls rfl | exact .slr rfl); exact rfl)
  | ((first | apply w_idxr | apply w_ldr); iterate 4 exact rfl)
  | (apply w_ldo; iterate 4 exact rfl)
  | (apply w_ldls; iterate 4 exact rfl)
  | (apply w_ldrp; iterate 4 exact rfl)
  | (apply w_ldb; iterate 5 exact rfl)
  | (apply w_ldst; iterate 5 exact rfl)
  | ((first | apply w_sllh | apply w_stbi); iterate 4 exact rfl)
  | ((first | apply w_oslo | apply w_oshi | apply w_stbii); iterate 4 exact rfl)
  | (apply w_copy; exact rfl; (first | exact .own rfl rfl rfl | exact .osub); exact rfl; rotate_left 1; exact rfl; (first | exact .ints _ | exact .sli rfl | exact .orow rfl | exact .nil | exact .osub rfl (by simp; omega)))
  | (apply w_build1; exact rfl; exact rfl; (first | exact one_val rfl rfl | exact one_ints | exact one_intss | exact one_own rfl True.intro))
  | (apply w_build2; exact rfl; exact rfl; exact rfl; (first | exact one_val rfl rfl | exact one_ints | exact one_intss | exact one_own rfl True.intro); (first | exact one_val rfl rfl | exact one_ints | exact one_intss | exact one_own rfl True.intro))
  | (apply w_bs0; iterate 1 exact rfl)
  | (apply w_appn; exact rfl; exact rfl; (first | exact .ints _ | exact .sli rfl | exact .orow rfl | exact .nil | exact .osub rfl (by simp; omega)); exact rfl)
  | (apply w_app; exact rfl; exact rfl; exact rfl; exact rfl; (first | exact .ints _ | exact .sli rfl | exact .orow rfl | exact .nil | exact .osub rfl (by simp; omega)); rotate_left 1; simp only [Env.mp, List.map_cons, List.map_nil, List.set_cons_zero, List.set_cons_succ, AV.kill, AV.kill1, AO.kill, AV.noRow, AV.noRow1, AO.via, reduceIte, Nat.reduceEqDiff, Nat.reduceLT, Env.up, Nat.zero_ne_one, Nat.one_ne_zero, Nat.reduceAdd, List.cons_append, List.nil_append]; rotate_left 1)
  | (apply w_alst; iterate 2 exact rfl)
  | (apply w_alone; iterate 3 exact rfl)
  | (apply w_mki; exact rfl; exact rfl; rotate_left 3; exact rfl; rotate_left 1)
  | (apply w_mkr; exact rfl; exact rfl; rotate_left 3; exact rfl; rotate_left 1)
  | (apply w_strow; exact rfl; exact rfl; rotate_left 1; exact rfl; exact rfl; exact rfl; exact rfl; simp only [Env.mp, List.map_cons, List.map_nil, List.set_cons_zero, List.set_cons_succ, AV.kill, AV.kill1, AO.kill, AV.noRow, AV.noRow1, AO.via, reduceIte, Nat.reduceEqDiff, Nat.reduceLT, Env.up, Nat.zero_ne_one, Nat.one_ne_zero, Nat.reduceAdd, List.cons_append, List.nil_append]; rotate_left 1)
  | (apply w_sti; exact rfl; exact rfl; rotate_left 1; exact rfl; rotate_left 2)
  | (apply w_stst; iterate 5 exact rfl)
  | (apply w_stbv; iterate 6 exact rfl)
  | (apply w_stbo; exact rfl; exact rfl; exact rfl; exact rfl; exact rfl; exact True.intro)
  | ((apply AOps.splitB; exact rfl; exact rfl) <;> intro h)
  | apply AllOf.nil
  | (apply AllOf.cons; exact rfl)
  | (apply AAny.take; exact rfl; exact rfl; kernel_rfl; kernel_rfl)
  | (apply AAny.all; exact rfl)
  | (apply AAny.done; exact rfl)
  | (apply inI_of <;> omega)
  | omega
  | (simp <;> omega))
  · refine .bool Try.results10 rfl ?_
    have : ¬ xss = yss := fun e => h (by rw [e])
    simp [this]
  · refine ⟨i + 1, ⟨by omega, ?_⟩, by omega, ⟨lee rfl (by (repeat (first | exact le_nil | refine le_eq rfl rfl ?_ | refine le_eq rfl (congrArg AV.i (by omega)) ?_))), by (repeat (first | exact lo_nil | refine lo_dead ?_ | refine lo_eq rfl ?_)), rfl, rfl⟩⟩
    have a1 : i < xss.length := by omega
    have a2 : i < yss.length := by omega
    have a3 : xss[i] = yss[i] := by simpa [gets, a1, a2] using h
    rw [List.take_succ_eq_append_getElem a1, List.take_succ_eq_append_getElem a2, h1, a3]
  · have e : i = xss.length := by omega
    subst e
    rw [List.take_length, hlen, List.take_length] at h1
    exact .bool Try.results10 rfl (by simp [h1])

theorem eqInt64SS_t (xss : List (List Int)) : AFnV Try.prog 10 [.intss xss, .intss xss] (.bool true) := by
  have := eqInt64SS_c xss xss
  simpa using this
end Go.Proofs.Ytpllbdjobmgikaa
/-
  Regions that draw their order and make memory: every order is walked. No condition.
-/
namespace Go.Proofs.Ytpllbdjobmgikaa
open Go Go.RowKit

theorem Oper.wp_mono2 {P : Program} {o : Oper} {a : Act} {w : World} {K K' : Act → World → Prop} {Q Q' : Exit → Act → World → Prop} (hK : ∀ a w, K a w → K' a w) (hp : ∀ c a w, Q (.panic c) a w → Q' (.panic c) a w)
    (hl : LetsOut Q → LetsOut Q') (h : Oper.wp P o a w K Q) : Oper.wp P o a w K' Q' := by
  unfold Oper.wp at *
  generalize (execOp a.eval o).run P w = r at *
  cases r with
  | ok n w' =>
    cases n <;> simp only [Oper.upon] at h ⊢
    case value u => exact hK _ _ h
    case skip => exact hK _ _ h
    case defer d => exact hK _ _ h
    case enter f args =>
      refine Calls.mono h fun e w'' he => ?_
      cases e with
      | returned u => exact hK _ _ he
      | panicked c => exact hp _ _ _ he
      | outgrown => exact hl he
    case row row args => exact Rows.mono h fun u w'' he => hK _ _ he
  | halt x w' =>
    cases x <;> simp only [Oper.upon] at h ⊢
    case panic u => exact hp _ _ _ h

/-- What may come up now. -/
def rdyGo (listed : List Bool) : Nat → List Oper → List Nat
  | _, [] => []
  | k, o :: os => cond (!(listed.getD k true) && o.after.toList.all fun e => !Region.binds .any e || listed.getD e.on false) (k :: rdyGo listed (k + 1) os) (rdyGo listed (k + 1) os)

theorem mem_rdyGo {listed : List Bool} {j : Nat} : ∀ {k : Nat} {l : List Oper}, j ∈ rdyGo listed k l ↔ k ≤ j ∧ listed.getD j true = false ∧ ∃ o, l[j - k]? = some o ∧ ∀ e ∈ o.after, Region.binds .any e = true → listed.getD e.on false = true
  | k, [] => by simp [rdyGo]
  | k, o :: os => by
    have ih := mem_rdyGo (listed := listed) (j := j) (k := k + 1) (l := os)
    have step : (k + 1 ≤ j ∧ listed.getD j true = false ∧ ∃ o', os[j - (k + 1)]? = some o' ∧ ∀ e ∈ o'.after, Region.binds .any e = true → listed.getD e.on false = true) ↔
        (k ≤ j ∧ j ≠ k ∧ listed.getD j true = false ∧ ∃ o', (o :: os)[j - k]? = some o' ∧ ∀ e ∈ o'.after, Region.binds .any e = true → listed.getD e.on false = true) := by
      constructor
      · rintro ⟨h1, h2, o', h3, h4⟩
        exact ⟨by omega, by omega, h2, o', by rw [show j - k = (j - (k + 1)) + 1 by omega]; exact h3, h4⟩
      · rintro ⟨h1, h0, h2, o', h3, h4⟩
        exact ⟨by omega, h2, o', by rw [show j - k = (j - (k + 1)) + 1 by omega] at h3; exact h3, h4⟩
    have here : (!(listed.getD k true) && o.after.toList.all fun e => !Region.binds .any e || listed.getD e.on false) = true ↔ (listed.getD k true = false ∧ ∀ e ∈ o.after, Region.binds .any e = true → listed.getD e.on false = true) := by
      rw [Bool.and_eq_true, List.all_eq_true]
      constructor
      · rintro ⟨h1, h2⟩
        refine ⟨by simpa using h1, fun e he hb => ?_⟩
        have := h2 e (by simpa using he)
        simpa [hb] using this
      · rintro ⟨h1, h2⟩
        refine ⟨by simpa using h1, fun e he => ?_⟩
        by_cases hb : Region.binds .any e = true
        · rw [h2 e (by simpa using he) hb]; simp
        · simp [hb]
    unfold rdyGo
    cases hc : (!(listed.getD k true) && o.after.toList.all fun e => !Region.binds .any e || listed.getD e.on false) with
    | true =>
      rw [cond_true, List.mem_cons, ih, step]
      have hh := here.1 hc
      constructor
      · rintro (rfl | ⟨h1, _, h2, h3⟩)
        · exact ⟨Nat.le_refl _, hh.1, o, by simp, hh.2⟩
        · exact ⟨h1, h2, h3⟩
      · rintro ⟨h1, h2, h3⟩
        by_cases e : j = k
        · exact .inl e
        · exact .inr ⟨h1, e, h2, h3⟩
    | false =>
      rw [cond_false, ih, step]
      constructor
      · rintro ⟨h1, _, h2, h3⟩; exact ⟨h1, h2, h3⟩
      · rintro ⟨h1, h2, o', h3, h4⟩
        refine ⟨h1, ?_, h2, o', h3, h4⟩
        intro e
        subst e
        simp at h3
        subst h3
        have := here.2 ⟨h2, h4⟩
        rw [hc] at this
        cases this

theorem mem_rdy {l : List Oper} {listed : List Bool} {j : Nat} : j ∈ Region.ready .any l.toArray listed.toArray ↔ j ∈ rdyGo listed 0 l := by
  rw [mem_ready, mem_rdyGo]
  simp [Array.getD_eq_getD_getElem?, List.getD_eq_getElem?_getD]

/-- Whatever order is picked from here on. -/
def AAny (P : Program) (l : List Oper) (fuel : Nat) (listed : List Bool) (K : APost) (env : Env) (os : List AO) : Prop :=
  ∀ base w0 w gs tm, Rel base w gs env os tm → Below base w0 w → ∀ X Rt, wpAny P .any l.toArray (Post base w0 K X Rt) fuel listed.toArray ⟨tm, []⟩ w

/-- Each of these comes up next. -/
def AllOf (P : Program) (l : List Oper) (fuel : Nat) (listed : List Bool) (K : APost) (env : Env) (os : List AO) : List Nat → Prop
  | [] => True
  | i :: is => (∃ o, l[i]? = some o ∧ AOps P .seq l [o] (fun env os => AAny P l fuel (listed.set i true) K env os) env os) ∧ AllOf P l fuel listed K env os is

section
variable {P : Program} {N : APost} {X : Nat → APost} {Rt : APost} {env : Env} {os : List AO} {l : List Oper} {K : APost} {fuel : Nat} {listed : List Bool}

theorem AllOf.get : ∀ {rs : List Nat}, AllOf P l fuel listed K env os rs → ∀ i ∈ rs, ∃ o, l[i]? = some o ∧ AOps P .seq l [o] (fun env os => AAny P l fuel (listed.set i true) K env os) env os
  | [], _, i, h => by cases h
  | j :: rs, h, i, hi => by
    rcases List.mem_cons.1 hi with rfl | hi
    · exact h.1
    · exact AllOf.get h.2 i hi

theorem AllOf.nil : AllOf P l fuel listed K env os [] := trivial
theorem AllOf.cons {i : Nat} {o : Oper} {is : List Nat} (ho : l[i]? = some o) (h : AOps P .seq l [o] (fun env os => AAny P l fuel (listed.set i true) K env os) env os) (hs : AllOf P l fuel listed K env os is) :
    AllOf P l fuel listed K env os (i :: is) := ⟨⟨o, ho, h⟩, hs⟩

theorem AAny.all {i : Nat} {is : List Nat} (hr : rdyGo listed 0 l = i :: is) (h : AllOf P l fuel listed K env os (i :: is)) : AAny P l (fuel + 1) listed K env os := by
  intro base w0 w gs tm hrel hb X Rt
  refine ⟨fun h0 => ?_, fun j hj => ?_⟩
  · have : i ∈ Region.ready .any l.toArray listed.toArray := mem_rdy.2 (by rw [hr]; simp)
    rw [h0] at this; cases this
  · have hj' := mem_rdy.1 hj
    rw [hr] at hj'
    obtain ⟨o, ho, hop⟩ := h.get j hj'
    have := hop base w0 w gs tm hrel hb X Rt
    unfold wpOp
    have ho' : l.toArray[j]? = some o := by simpa using ho
    rw [ho']
    have kk : ∀ a w', Post base w0 (fun env os => AAny P l fuel (listed.set j true) K env os) X Rt .normal a w' → wpAny P .any l.toArray (Post base w0 K X Rt) fuel (listed.toArray.setIfInBounds j true) a w' := by
      rintro a w' ⟨env', os', gs', h1, h2, h3, h4⟩
      have ea : a = ⟨a.tmps, []⟩ := by cases a; simp_all
      rw [ea]
      have := h4 base w0 w' gs' a.tmps h1 h3 X Rt
      rwa [show listed.toArray.setIfInBounds j true = (listed.set j true).toArray from by simp]
    unfold wpList at this
    simp only
    split
    · rename_i hw
      rw [if_pos hw] at this
      rcases this with this | ⟨h1, ⟨a, w', h2⟩⟩
      · exact .inl (Oper.wp_mono2 kk (fun _ _ _ h => (h : False).elim) (fun ⟨_, _, h⟩ => (h : False).elim) this)
      · exact (h2 : False).elim
    · rename_i hw
      rw [if_neg hw] at this
      exact kk _ _ this

theorem AAny.done (hr : rdyGo listed 0 l = []) (h : K env os) : AAny P l fuel listed K env os := by
  intro base w0 w gs tm hrel hb X Rt
  have hr' : Region.ready .any l.toArray listed.toArray = [] := by
    apply List.eq_nil_iff_forall_not_mem.2
    intro j hj
    have := mem_rdy.1 hj
    rw [hr] at this; cases this
  cases fuel with
  | zero => exact ⟨hr', env, os, gs, hrel, rfl, hb, h⟩
  | succ n => exact ⟨fun _ => ⟨env, os, gs, hrel, rfl, hb, h⟩, by rw [hr']; intro j hj; cases hj⟩

/-- What needs no world. -/
def wlessB (o : Oper) : Bool :=
  match o.op with
  | .move _ => true
  | .assign _ => true
  | .pick _ _ _ => true
  | .build _ _ => true
  | .binOp _ _ _ _ _ => true
  | .unOp _ _ _ => true
  | .convert _ _ _ => true
  | .fieldAddr _ _ _ => true
  | .field _ _ _ => true
  | .indexAddr _ _ _ => true
  | .extract _ _ => true
  | .call c => match c.callee with
    | .builtin .len => true
    | .builtin .min => true
    | .builtin .max => true
    | _ => false
  | _ => false
def findW (l : List Oper) : List Nat → Option Nat
  | [] => none
  | i :: is => cond (match l[i]? with | some o => wlessB o | none => false) (some i) (findW l is)

theorem findW_mem {l : List Oper} : ∀ {is : List Nat} {i : Nat}, findW l is = some i → i ∈ is
  | [], _, h => by cases h
  | j :: is, i, h => by
    simp only [findW] at h
    cases hb : (match l[j]? with | some o => wlessB o | none => false) with
    | true => rw [hb] at h; simp at h; simp [h]
    | false => rw [hb] at h; exact List.mem_cons_of_mem _ (findW_mem h)

/-- An operation that needs no world is taken first. -/
theorem AAny.take {i : Nat} {o : Oper} (hi : findW l (rdyGo listed 0 l) = some i) (ho : l[i]? = some o) (hs : Region.noSelect l.toArray = true) (hf : Region.free .any l.toArray listed.toArray i = true)
    (h : AOps P .wless l [o] (fun env os => AAny P l fuel (listed.set i true) K env os) env os) : AAny P l (fuel + 1) listed K env os := by
  intro base w0 w gs tm hrel hb X Rt
  obtain ⟨v, hy, env', os', gs', hk, hd, hr'⟩ := h base w gs tm hrel
  refine wpAny_take (oi := o) (v := v) (by simpa using ho) hs hf ?_ (fun _ _ _ h => h.elim) hy ?_
  · have : i ∈ Region.ready .any l.toArray listed.toArray := mem_rdy.2 (findW_mem hi)
    simpa using this
  · have := hk base w0 w gs' _ hr' hb X Rt
    rw [show listed.toArray.setIfInBounds i true = (listed.set i true).toArray from by simp]
    have e : (⟨(Act.put ⟨tm, []⟩ o.dst v).tmps, []⟩ : Act) = Act.put ⟨tm, []⟩ o.dst v := by
      have : (Act.put ⟨tm, []⟩ o.dst v).defers = [] := hd
      generalize Act.put ⟨tm, []⟩ o.dst v = a at this
      cases a; simp_all
    rw [e] at this
    exact this

/-- A region that draws its order: every order comes to a state that may be seen as (envC, osC). -/
theorem AWp.regionA {id : Nat} (hm : P.follows .mixedOrders = true) {envC : Env} {osC : List AO} {n : Nat} (hn : l.length = n) {listed : List Bool} (hl : List.replicate n false = listed)
    (h : AAny P l n listed (fun e o => Fit e o envC osC ∨ ∃ σ, FitS σ e o envC osC) env os) (hk : N envC osC) : AWp P (.region id l.toArray true) N X Rt env os := by
  intro base w0 w gs tm hr hb
  have hbel : Below w.heap.size w { w with drawn := w.drawn + 1 } := (Below.refl _ _).drew
  refine wp_region_any hm ?_
  have := h base w0 _ gs tm (hr.below hbel) (hb.trans (hbel.mono hr.hb)) X Rt
  rw [← hl] at this
  have e1 : (List.replicate n false).toArray = Array.replicate l.toArray.size false := by simp [hn]
  rw [e1] at this
  have e2 : l.toArray.size = n := by simpa using hn
  rw [e2] at this ⊢
  refine wpAny_monoQ ?_ this
  intro e a w' hq
  cases e with
  | normal =>
    obtain ⟨env', os', gs', r1, r2, r3, hf⟩ := hq
    rcases hf with hf | ⟨σ, hf⟩
    · obtain ⟨gs2, r4⟩ := r1.fit hf
      exact ⟨envC, osC, gs2, r4, r2, r3, hk⟩
    · obtain ⟨gs2, r4⟩ := r1.fits hf
      exact ⟨envC, osC, gs2, r4, r2, r3, hk⟩
  | exit j => exact hq
  | ret => exact hq
  | goto l => exact hq
  | panic ch => exact hq
  | outgrown => exact hq
where
  wpAny_monoQ {P : Program} {ops : Array Oper} {Q Q' : Exit → Act → World → Prop} (hq : ∀ e a w, Q e a w → Q' e a w) : ∀ {fuel : Nat} {listed : Array Bool} {a : Act} {w : World}, wpAny P .any ops Q fuel listed a w → wpAny P .any ops Q' fuel listed a w
    | 0, _, _, _, h => ⟨h.1, hq _ _ _ h.2⟩
    | fuel + 1, _, _, _, h => by
      refine ⟨fun h0 => hq _ _ _ (h.1 h0), fun i hi => ?_⟩
      have := h.2 i hi
      unfold wpOp at this ⊢
      split
      · rename_i ho; rw [ho] at this; exact wpAny_monoQ hq this
      · rename_i o ho
        rw [ho] at this
        simp only at this
        split
        · rename_i hw
          rw [if_pos hw] at this
          rcases this with h1 | ⟨h1, a, w, h2⟩
          · exact .inl (Oper.wp_mono2 (fun _ _ h' => wpAny_monoQ hq h') (fun _ _ _ => hq _ _ _) (fun ⟨a, w, h⟩ => ⟨a, w, hq _ _ _ h⟩) h1)
          · exact .inr ⟨h1, a, w, hq _ _ _ h2⟩
        · rename_i hw
          rw [if_neg hw] at this
          exact wpAny_monoQ hq this

end
end Go.Proofs.Ytpllbdjobmgikaa
/-
  More rules: parts of own slices as sources, a slice compared with nil, functions that hand back a part of what they are handed. No condition.
-/
namespace Go.Proofs.Ytpllbdjobmgikaa
open Go Go.RowKit
section
variable {P : Program} {env : Env} {os : List AO} {d : Option Tmp} {ty : TypeId} {pos : String} {af : Array Edge} {g : Option (Nat × Bool)} {wl : Bool}

end

section
variable {P : Program} {env : Env} {os : List AO} {d : Tmp} {ty : TypeId} {pos : String} {af : Array Edge} {g : Option (Nat × Bool)} {l rest : List Oper} {K : APost} {q : Md}
end

/-! ### Functions that hand back a part of what they are handed -/
/-- The function leaves the object 'os' behind the handle 0 as it is, and hands back a part of it: what lies off on, len long. -/
def AFnR (P : Program) (f : FuncId) (args : List AV) (T : TypeId) (xs : List Int) (off len : Nat) : Prop :=
  HasBody P f ∧ ∀ base w gs vs, base ≤ w.heap.size → Objs base w gs [.sli T xs] → vs.size = args.length → (∀ i : Nat, RV w (okOf gs [.sli T xs]) gs (vs.getD i undef) (args.getD i .any)) →
    Calls P f vs w fun e w' => ∃ v, e = .returned v ∧ RV w' (fun _ => True) gs v (.osub 0 off len) ∧ Objs base w' gs [.sli T xs] ∧ Below base w w' ∧ ∀ b, b < w.heap.size → (∀ (h : Nat) g, gs[h]? = some g → b ∉ g.bl) → w'.heap[b]? = w.heap[b]?
theorem AFnR.of {P : Program} {f : FuncId} {fn : Func} {c : Code} {args : List AV} {T : TypeId} {xs : List Int} {off len : Nat} {n : Nat} (hf : P.funcs[f]? = some fn) (hb : fn.body = some c) (hnm : (fn.name == "runtime.NumGoroutine") = false) (hn : fn.ntmps - args.length = n)
    (h : ∀ K, AWp P c (fun _ _ => False) (fun _ _ _ => False) (fun env os1 => ResIs P fn env os1 (.osub 0 off len) ∧ os1.take 1 = [.sli T xs] ∧ os1[1]? = some (.keep 2 K)) (Env.start args n) [.sli T xs, .keep 2 K]) :
    AFnR P f args T xs off len := by
  obtain ⟨os, hos⟩ : ∃ os : List AO, os = [.sli T xs] := ⟨_, rfl⟩
  have h' : ∀ K, AWp P c (fun _ _ => False) (fun _ _ _ => False) (fun env os1 => ResIs P fn env os1 (.osub 0 off len) ∧ os1.take os.length = os ∧ os1[os.length]? = some (.keep (os.length + 1) K) ∧ ∀ o ∈ os, o.plain) (Env.start args n) (os ++ [.keep (os.length + 1) K]) := by
    subst hos
    exact fun K => (h K).mono (fun _ _ e => e) (fun _ _ _ e => e) fun _ _ ⟨e1, e2, e3⟩ => ⟨e1, e2, e3, by intro o ho; simp at ho; subst ho; trivial⟩
  unfold AFnR
  rw [← hos]
  refine ⟨⟨fn, c, hf, hnm, hb⟩, fun base w gs vs hbase hO hsz hvs => calls_of_wp hf hb ?_⟩
  rw [show fn.ntmps - vs.size = n by rw [hsz]; exact hn]
  let bl : List Nat := (List.range w.heap.size).filter fun b => decide (base ≤ b) && gs.all fun g => !g.bl.contains b
  let gk : Gh := ⟨undef, 0, bl, []⟩
  let K : Kp := ⟨fun b => w.heap[b]?, gs ++ [gk]⟩
  have hbl : ∀ b, b ∈ bl ↔ b < w.heap.size ∧ base ≤ b ∧ ∀ (h : Nat) g, gs[h]? = some g → b ∉ g.bl := by
    intro b
    simp only [bl, List.mem_filter, List.mem_range, Bool.and_eq_true, decide_eq_true_eq, List.all_eq_true, Bool.not_eq_true', List.contains_eq_mem, decide_eq_false_iff_not]
    constructor
    · rintro ⟨h1, h2, h3⟩
      exact ⟨h1, h2, fun h g hg => h3 g (List.mem_of_getElem? hg)⟩
    · rintro ⟨h1, h2, h3⟩
      exact ⟨h1, h2, fun g hg => by obtain ⟨i, hi⟩ := List.getElem?_of_mem hg; exact h3 i g hi⟩
  have hl := hO.hl
  have part : ∀ {i : Nat} {x : Gh} {y : AO}, (gs ++ [gk])[i]? = some x → (os ++ [.keep (os.length + 1) K])[i]? = some y → (gs[i]? = some x ∧ os[i]? = some y) ∨ (i = os.length ∧ x = gk ∧ y = .keep (os.length + 1) K) := by
    intro i x y hx hy
    rcases append_one hx with ⟨h1, h2⟩ | ⟨h1, rfl⟩
    · rcases append_one hy with ⟨h3, h4⟩ | ⟨h3, rfl⟩
      · exact .inl ⟨h2, h4⟩
      · omega
    · rcases append_one hy with ⟨h3, h4⟩ | ⟨h3, rfl⟩
      · omega
      · exact .inr ⟨h3, rfl, rfl⟩
  have gl : ∀ (i : Nat) x, gs[i]? = some x → (gs ++ [gk])[i]? = some x := fun i x e => by
    rw [List.getElem?_append_left (List.getElem?_eq_some_iff.1 e).1]; exact e
  have kp : Keeps (okOf gs os) (okOf (gs ++ [gk]) (os ++ [.keep (os.length + 1) K])) w w := by
    intro b hbk _
    refine ⟨fun i x y hx hy hny hm => ?_, rfl⟩
    rcases part hx hy with ⟨h1, h2⟩ | ⟨_, _, rfl⟩
    · exact hbk i x y h1 h2 hny hm
    · exact hny.elim
  have hrel : Rel base w (gs ++ [gk]) (Env.start args n) (os ++ [.keep (os.length + 1) K]) (vs ++ Array.replicate n undef) := by
    refine ⟨hbase, by simp [hl], by simp [Env.start, hsz], fun i => ?_, ?_, ?_, ?_⟩
    · exact start_rv args n vs (fun i => (hvs i).mono kp gl) i
    · intro i x y hx hy
      rcases part hx hy with ⟨h1, h2⟩ | ⟨_, rfl, rfl⟩
      · exact (hO.hp y (List.mem_of_getElem? h2)).ro (hO.ho i x y h1 h2)
      · exact ⟨fun b _ => rfl, by simp [K, hl], fun i x h => h⟩
    · intro i j g1 g2 o1 o2 hij hg1 hg2 ho1 ho2 _ _ b hb1 hb2
      rcases part hg1 ho1 with ⟨a1, a2⟩ | ⟨a1, rfl, _⟩
      · rcases part hg2 ho2 with ⟨b1, b2⟩ | ⟨_, rfl, _⟩
        · exact hO.hd i j g1 g2 hij a1 b1 b hb1 hb2
        · exact ((hbl b).1 hb2).2.2 i g1 a1 hb1
      · rcases part hg2 ho2 with ⟨b1, b2⟩ | ⟨b1, _, _⟩
        · exact ((hbl b).1 hb1).2.2 j g2 b1 hb2
        · omega
    · intro i x y hx hy _ b hb
      rcases part hx hy with ⟨h1, h2⟩ | ⟨_, rfl, _⟩
      · exact hO.hn i x h1 b hb
      · exact ⟨((hbl b).1 hb).2.1, ((hbl b).1 hb).1⟩
  refine wp_mono (h' K base w w _ _ hrel (Below.refl _ _)) ?_
  intro e a w' hq
  cases e with
  | normal => obtain ⟨_, _, _, _, _, _, hx⟩ := hq; exact hx.elim
  | exit j => obtain ⟨_, _, _, _, _, _, hx⟩ := hq; exact hx.elim
  | ret =>
    obtain ⟨env, os1, gs1, hr, hd, hbel, h1, h3, h4, h5⟩ := hq
    obtain ⟨v, hu, hv⟩ := h1 _ _ _ _ hr
    have hlt : os.length < os1.length := (List.getElem?_eq_some_iff.1 h4).1
    have hltg : os.length < gs1.length := by have := hr.hl; omega
    obtain ⟨g1, hg1⟩ : ∃ g1, gs1[os.length]? = some g1 := ⟨_, List.getElem?_eq_getElem hltg⟩
    obtain ⟨r1, r2, r3⟩ := hr.ho _ _ _ hg1 h4
    have pin : ∀ (i : Nat) x, gs[i]? = some x → gs1[i]? = some x := fun i x e => r3 i x (gl i x e)
    have egk : g1 = gk := by
      have := r3 os.length gk (by show (gs ++ [gk])[os.length]? = some gk; rw [← hl]; simp)
      rw [hg1] at this
      exact Option.some.inj this
    rw [egk] at r1
    have get' : ∀ {i : Nat} {y : AO}, os[i]? = some y → os1[i]? = some y ∧ i < os.length := by
      intro i y hy
      rw [← h3, List.getElem?_take] at hy
      split at hy
      · exact ⟨hy, ‹_›⟩
      · cases hy
    refine ⟨hd, v, hu, v, rfl, ?_, ⟨hO.hl, h5, ?_, hO.hd, ?_⟩, hbel, ?_⟩
    · cases hv with
      | @osub _ _ _ cap p g0 hg hp hc hm =>
        have hlt0 : 0 < gs.length := by rw [hl, hos]; simp
        have e0 := pin 0 _ (List.getElem?_eq_getElem hlt0)
        rw [hg] at e0
        cases e0
        exact .osub (List.getElem?_eq_getElem hlt0) hp hc hm
    · intro i x y hx hy
      obtain ⟨h6, h7⟩ := get' hy
      exact (h5 y (List.mem_of_getElem? hy)).ro (hr.ho i x y (pin i x hx) h6)
    · intro i x hx b hb
      have := hO.hn i x hx b hb
      exact ⟨this.1, Nat.lt_of_lt_of_le this.2 hbel.size⟩
    · intro b hb hnot
      rcases Nat.lt_or_ge b base with h6 | h6
      · exact hbel.block b h6
      · exact r1 b ((hbl b).2 ⟨hb, h6, hnot⟩)
  | goto l => exact (hq : False).elim
  | panic ch => exact (hq : False).elim
  | outgrown => exact (hq : False).elim


theorem AFnR.start {P : Program} {f : FuncId} {fn : Func} {nt : Nat} {args : List AV} {T : TypeId} {xs : List Int} {off len : Nat} (hf : P.funcs[f]? = some fn) (hnt : fn.ntmps = nt) {c : Code} (hb : fn.body = some c) (hnm : (fn.name == "runtime.NumGoroutine") = false)
    (h : ∀ K, AWp P c (fun _ _ => False) (fun _ _ _ => False) (fun env os1 => ResIs P fn env os1 (.osub 0 off len) ∧ os1.take 1 = [.sli T xs] ∧ os1[1]? = some (.keep 2 K)) (Env.start args (nt - args.length)) [.sli T xs, .keep 2 K]) :
    AFnR P f args T xs off len := AFnR.of hf hb hnm (by rw [hnt]) h

section
variable {P : Program} {env : Env} {os : List AO} {d : Tmp} {ty : TypeId} {pos : String} {af : Array Edge} {l rest : List Oper} {K : APost}
end
end Go.Proofs.Ytpllbdjobmgikaa
/-
  Rows that go into own slices by append; literal slices of rows. No condition.
-/
namespace Go.Proofs.Ytpllbdjobmgikaa
open Go Go.RowKit

/-- The slice 'k' is now the row j of 'p'; what names p's own value or block is lost. -/
def AV.rin1 (k p j : Nat) : AV → AV
  | .own i => if i = k then .orow p j else if i = p then .any else .own i
  | .optr i n => if i = p then .any else .optr i n
  | .osub i a b => if i = p then .any else .osub i a b
  | .agg _ => .any
  | .tup _ => .any
  | a => a
def AV.rin (k p j : Nat) : AV → AV
  | .own i => if i = k then .orow p j else if i = p then .any else .own i
  | .optr i n => if i = p then .any else .optr i n
  | .osub i a b => if i = p then .any else .osub i a b
  | .agg l => .agg (l.map (AV.rin1 k p j))
  | .tup l => .tup (l.map (AV.rin1 k p j))
  | a => a

section
variable {w w' : World} {ok ok' : Nat → Prop} {gs gs' : List Gh} {p k j : Nat} {gk g' : Gh}

structure RowIn (p k j : Nat) (gs gs' : List Gh) : Prop where
  other : ∀ (i : Nat) g, i ≠ p → gs[i]? = some g → gs'[i]? = some g
  rows : ∀ g, gs[p]? = some g → ∃ g', gs'[p]? = some g' ∧ ∀ (i : Nat) v, g.rows[i]? = some v → g'.rows[i]? = some v
  row : ∀ gk, gs[k]? = some gk → ∃ g', gs'[p]? = some g' ∧ g'.rows[j]? = some gk.v

theorem RV.rin1 (kp : Keeps ok ok' w w') (s : RowIn p k j gs gs') {v : Value} {a : AV} (hv : RV w ok gs v a) : RV w' ok' gs' v (a.rin1 k p j) := by
  cases hv with
  | any v => exact .any v
  | val v => exact .val v
  | ints h => exact .ints (h.mono kp)
  | intss h => exact .intss (h.mono kp)
  | @ro v r h => exact .ro (r.up kp h)
  | iptr h h1 h2 => exact .iptr (h.mono kp) h1 h2
  | iiptr h h1 h2 => exact .iiptr (h.mono kp) h1 h2
  | @own i g h1 =>
    simp only [AV.rin1]; split
    · subst_vars
      obtain ⟨g', a1, a2⟩ := s.row _ h1
      exact .orow a1 a2
    · split
      · exact .any _
      · exact .own (s.other _ _ ‹_› h1)
  | optr h1 =>
    simp only [AV.rin1]; split
    · exact .any _
    · exact .optr (s.other _ _ ‹_› h1)
  | osub h1 h2 h3 h4 =>
    simp only [AV.rin1]; split
    · exact .any _
    · exact .osub (s.other _ _ ‹_› h1) h2 h3 h4
  | @orow h i g v h1 h2 =>
    by_cases e : h = p
    · subst e
      obtain ⟨g', a1, a2⟩ := s.rows _ h1
      exact .orow a1 (a2 _ _ h2)
    · exact .orow (s.other _ _ e h1) h2
  | @orptr h i n blk m c g h1 h2 =>
    by_cases e : h = p
    · subst e
      obtain ⟨g', a1, a2⟩ := s.rows _ h1
      exact .orptr a1 (a2 _ _ h2)
    · exact .orptr (s.other _ _ e h1) h2
  | agg _ _ _ => exact .any _
  | tup _ _ => exact .any _

theorem RV.rin (kp : Keeps ok ok' w w') (s : RowIn p k j gs gs') {v : Value} {a : AV} (hv : RV w ok gs v a) : RV w' ok' gs' v (a.rin k p j) := by
  cases hv with
  | any v => exact .any v
  | val v => exact .val v
  | ints h => exact .ints (h.mono kp)
  | intss h => exact .intss (h.mono kp)
  | @ro v r h => exact .ro (r.up kp h)
  | iptr h h1 h2 => exact .iptr (h.mono kp) h1 h2
  | iiptr h h1 h2 => exact .iiptr (h.mono kp) h1 h2
  | @own i g h1 => exact RV.rin1 kp s (.own h1)
  | optr h1 => exact RV.rin1 kp s (.optr h1)
  | osub h1 h2 h3 h4 => exact RV.rin1 kp s (.osub h1 h2 h3 h4)
  | orow h1 h2 => exact RV.rin1 kp s (.orow h1 h2)
  | orptr h1 h2 => exact RV.rin1 kp s (.orptr h1 h2)
  | agg h1 h3 h2 => exact .agg (by simpa using h1) h3 fun i => by rw [getD_map_f _ rfl]; exact (h2 i).rin1 kp s
  | tup h1 h2 => exact .tup (by simpa using h1) fun i => by rw [getD_map_f _ rfl]; exact (h2 i).rin1 kp s
end

section
variable {P : Program} {env : Env} {os : List AO} {d : Option Tmp} {ty : TypeId} {pos : String} {af : Array Edge} {g : Option (Nat × Bool)}

/-- An empty slice of rows. -/
theorem l_bsr0 {t e e2 : TypeId} {bytes : Nat} [ht : TSlice P t e] [he : TElem P e (.slice none 0 0) bytes] [TSlice P e e2] : LOp P ⟨d, .buildSlice t 0 #[], ty, pos, af, g⟩ env os (.own os.length) env (os ++ [.sls e e2 []]) := by
  refine l_new fun base w gs tm hr => ?_
  obtain ⟨ii, hi, hs, hz, hby⟩ := he.info
  refine ⟨w.alloc (.cells #[] e), ⟨.slice (some ⟨w.heap.size, 0, none⟩) 0 0, w.heap.size, [w.heap.size], []⟩, ?_, below_alloc w _, fun b hb => by simp at hb; simp [hb], fun ok gs' => ?_⟩
  · simp [execOp, Instr.buildSlice, run_underlying ht.und, sizeOf, typeInfo, hi, Instr.fill, newRow, ar0]
  · refine ⟨[], [], [w.heap.size], ⟨by simp, .inr ⟨w.heap.size, 0, _, rfl, hr.hb, heap_alloc_new w _, Nat.le_refl _, by simp [maxLen], by simp, by simp⟩⟩, rfl, rfl, rfl, fun i u hu => (by cases hu), .inr ⟨rfl, rfl⟩, by simp, by simp⟩

/-- A literal slice of one row: a block whose cell names the row. -/
theorem l_bsr1 {t e : TypeId} {bytes : Nat} [ht : TSlice P t e] [he : TElem P e (.slice none 0 0) bytes] {x : Operand} {k : Nat} {e3 : TypeId} {ys : List Int} (hx : AV.ev env x = .own k) (hk : os[k]? = some (.sli e3 ys)) :
    LOp P ⟨d, .buildSlice t 1 #[(0, x)], ty, pos, af, g⟩ env os (.osub os.length 0 1) env (os ++ [.bx e [.own k]]) := by
  intro base w gs tm hr
  have hxv := hr.ev x
  rw [hx] at hxv
  generalize hv : Act.eval ⟨tm, []⟩ x = v at hxv
  cases hxv with
  | @own _ gk hgk =>
    obtain ⟨b1, b2, b3⟩ := hr.ho _ _ _ hgk hk
    obtain ⟨ua, uc, eu⟩ := ownsRow_slice b1
    obtain ⟨ii, hi, hs, hz, hby⟩ := he.info
    have hbel := below_alloc w (.cells [gk.v].toArray e)
    have hlt : w.heap.size < (w.alloc (.cells [gk.v].toArray e)).heap.size := by simp
    have hno : AO.bx e [.own k] ≠ .dead → ∀ b, b ∈ [w.heap.size] → w.heap.size ≤ b ∧ b < (w.alloc (.cells [gk.v].toArray e)).heap.size := fun _ b hb => by simp at hb; omega
    let gn : Gh := ⟨.pointer (some ⟨w.heap.size, 0, none⟩), w.heap.size, [w.heap.size], []⟩
    have hgs : ∀ (i : Nat) g', gs[i]? = some g' → (gs ++ [gn])[i]? = some g' := fun i g' e => by
      rw [List.getElem?_append_left (List.getElem?_eq_some_iff.1 e).1]; exact e
    refine ⟨.slice (some ⟨w.heap.size, 0, none⟩) 1 1, _, gs ++ [gn], .inl ?_, hr.new hbel _ _ hno ?_, ?_, hbel.mono hr.hb⟩
    · simp [execOp, Instr.buildSlice, run_underlying ht.und, sizeOf, typeInfo, zeroValue, hi, hs, hz, Instr.fill, newRow, hv, eu, Value.cells, ar1]
    · refine ⟨[gk.v], heap_alloc_new w _, hr.hb, rfl, rfl, rfl, ?_, fun i => ?_⟩
      · intro c hc; simp at hc; subst hc; rw [eu]; rfl
      · match i with
        | 0 => exact .own (hgs _ _ hgk)
        | i + 1 => exact .any _
    · have := RV.osub (w := w.alloc (.cells [gk.v].toArray e)) (ok := okOf (gs ++ [gn]) (os ++ [.bx e [.own k]])) (off := 0) (len := 1) (cap := 1) (p := some ⟨w.heap.size, 0, none⟩) (len_new (gs := gs) (g := gn)) (fun _ => rfl) (Nat.le_refl _) (by simp [maxLen])
      rw [hr.hl] at this
      exact this

theorem nodup_rows {m m' fl c : List Nat} (h : (m ++ fl).Nodup) (hm : m'.Nodup) (hmm : ∀ b, b ∈ m' → b ∉ fl ∧ b ∉ c) (hc : c.Nodup) (hd : ∀ b, b ∈ c → b ∉ m ++ fl) : (m' ++ (fl ++ c)).Nodup := by
  simp only [List.nodup_append, List.mem_append] at *
  obtain ⟨h1, h2, h3⟩ := h
  refine ⟨hm, ⟨h2, hc, ?_⟩, ?_⟩
  · intro a ha b hb e
    subst e
    exact hd a hb (.inr ha)
  · intro a ha b hb e
    subst e
    rcases hb with hb | hb
    · exact (hmm a ha).1 hb
    · exact (hmm a ha).2 hb

set_option maxHeartbeats 1000000 in
/-- One row is appended. -/
theorem l_append_row {t e e3 : TypeId} {bytes : Nat} [ht : TSlice P t e] [he : TElem P e (.slice none 0 0) bytes] {x y : Operand} {h m k : Nat} {e' e2 T : TypeId} {xss : List (List Int)} {ys : List Int}
    (hx : AV.ev env x = .own h) (hs : os[h]? = some (.sls e' e2 xss)) (hee : e' = e) (hy : AV.ev env y = .osub m 0 1) (hm : os[m]? = some (.bx T [.own k])) (hk : os[k]? = some (.sli e3 ys)) (he3 : e3 = e2)
    (hb : (xss.length + 1) * bytes ≤ 140737488355328) :
    LOp P ⟨d, .call { callee := .builtin .append, args := #[x, y], argTypes := #[t, t] }, ty, pos, af, g⟩ env os (.own h) (env.mp (AV.rin k h xss.length)) (((os.map (AO.via (AV.rin k h xss.length) h)).set h (.sls e e2 (xss ++ [ys]))).set k .dead) := by
  subst hee
  subst he3
  intro base w gs tm hr
  have hxv := hr.ev x
  rw [hx] at hxv
  have hyv := hr.ev y
  rw [hy] at hyv
  generalize hv : Act.eval ⟨tm, []⟩ x = v at hxv
  generalize hu : Act.eval ⟨tm, []⟩ y = u at hyv
  have hne : h ≠ k := fun e => by subst e; rw [hs] at hk; cases hk
  cases hxv with
  | @own _ gh hg =>
  cases hyv with
  | @osub _ _ _ cap pa gm hgm hp hc hcm =>
    have epa := hp (by omega)
    subst epa
    obtain ⟨cs, m1, m2, m3, m4, m5, m6, m7⟩ := hr.ho _ _ _ hgm hm
    have hcs := m7 0
    simp only [List.getD_cons_zero] at hcs
    obtain ⟨c0, rfl⟩ : ∃ c0, cs = [c0] := by
      match cs, m5 with
      | [c0], _ => exact ⟨c0, rfl⟩
    simp only [List.getD_cons_zero] at hcs
    cases hcs with
    | @own _ gk hgk =>
    obtain ⟨vs, bs, mb, a1, a2, a3, a4, a5, a6, a7, a8⟩ := hr.ho _ _ _ hg hs
    obtain ⟨b1, b2, b3⟩ := hr.ho _ _ _ hgk hk
    obtain ⟨ua, uc, eu⟩ := ownsRow_slice b1
    obtain ⟨ii, hi, hsz, hz, hby⟩ := he.info
    have h64 : vs.length + 1 ≤ maxLen := by
      have := he.pos
      have : xss.length + 1 ≤ (xss.length + 1) * bytes := Nat.le_mul_of_pos_right _ this
      simp only [maxLen]; omega
    obtain ⟨v', w', r1, r2, r3, r4, r5⟩ := run_append_own_at (P := P) w base t ty e' ii _ 1 bytes ht.und hi hz hsz hby rfl (by omega) gh.v vs.length vs a1 ⟨gm.b, 0, none⟩ 1 cap [gk.v] (by simp)
      (fun j u hj => by
        have hj0 : j = 0 := by have := (List.getElem?_eq_some_iff.1 hj).1; simp at this; exact this
        subst hj0
        rw [add_none, cell_of_row w _ _ _ _ (0, 0) m1]
        simpa using hj)
      (fun u hu => by simp at hu; subst hu; rw [eu]; rfl) h64 (by rw [a2]; exact hb) hr.hb
    have emb : gh.v.ownBlock.toList = mb := by
      rcases a6 with ⟨c1, c2⟩ | ⟨c1, c2⟩
      · rw [c1, c2]; rfl
      · rw [c1, c2]; rfl
    have hgb : ∀ b, b ∉ gh.bl → some b ≠ gh.v.ownBlock := fun b hb e => hb (by rw [a7, ← emb, ← e]; simp)
    have hnotmb : ∀ b, b ∉ mb → some b ≠ gh.v.ownBlock := fun b hb e => hb (by rw [← emb, ← e]; simp)
    have hdis : ∀ c, c ∈ gk.bl → c ∉ gh.bl := hr.hd k h gk gh _ _ (fun e => hne e.symm) hgk hg hk hs (by simp) (by simp)
    have hlt : ∀ b, v'.ownBlock = some b → b < w'.heap.size := by
      intro b hb
      rcases r2.2 with ⟨e1, _⟩ | ⟨gg, cc, cur, e1, _, hgg, _⟩
      · rw [e1] at hb; cases hb
      · rw [e1] at hb; cases hb; exact (Array.getElem?_eq_some_iff.1 hgg).1
    have hhg : h < gs.length := (List.getElem?_eq_some_iff.1 hg).1
    have hbl0 : ∀ b, b ∈ gh.bl → b < w.heap.size := fun b hb => (hr.hn _ _ _ hg hs (by simp) b hb).2
    have hblk : ∀ b, b ∈ gk.bl → b < w.heap.size := fun b hb => (hr.hn _ _ _ hgk hk (by simp) b hb).2
    let g' : Gh := ⟨v', v'.ownBlock.getD 0, v'.ownBlock.toList ++ (bs ++ [gk.bl]).flatten, vs ++ [gk.v]⟩
    have efl : (bs ++ [gk.bl]).flatten = bs.flatten ++ gk.bl := by simp
    have hv'b : ∀ b, b ∈ v'.ownBlock.toList → v'.ownBlock = some b := fun b hb => by
      cases hvb : v'.ownBlock with
      | none => rw [hvb] at hb; simp at hb
      | some c => rw [hvb] at hb; simp at hb; rw [hb]
    have sv : RowIn h k xss.length gs (gs.set h g') := by
      refine ⟨fun j z hj hz => ?_, fun z hz => ⟨g', by simp [hhg], fun i u hiu => ?_⟩, fun z hz => ⟨g', by simp [hhg], ?_⟩⟩
      · rw [List.getElem?_set, if_neg (fun e => hj e.symm)]; exact hz
      · rw [hg] at hz; cases hz
        rw [a4] at hiu
        show (vs ++ [gk.v])[i]? = some u
        rw [List.getElem?_append_left (List.getElem?_eq_some_iff.1 hiu).1]; exact hiu
      · rw [hgk] at hz; cases hz
        show (vs ++ [gk.v])[xss.length]? = some gk.v
        rw [← a2]; simp
    -- a row's block is none of the outer one's
    have rowblk : ∀ (j : Nat) u, vs[j]? = some u → ∀ c, u.ownBlock = some c → c ∈ bs.flatten := by
      intro j u hj c hc
      have hjb : j < bs.length := by
        have := (List.getElem?_eq_some_iff.1 hj).1
        omega
      exact List.mem_flatten.2 ⟨bs.getD j [], by rw [List.getD_eq_getElem?_getD, List.getElem?_eq_getElem hjb]; simp, by rw [← (a5 j u hj).2.2, hc]; simp⟩
    have a8' : (mb ++ bs.flatten).Nodup := by rw [← a7]; exact a8
    have mbfl : ∀ b, b ∈ mb → b ∉ bs.flatten := fun b hb hb2 => (List.nodup_append.1 a8').2.2 b hb b hb2 rfl
    have keep : ∀ c, c < w.heap.size → c ∉ mb → w'.heap[c]? = w.heap[c]? := fun c hc hcm => r3.block c hc (hnotmb c hcm)
    refine ⟨v', w', gs.set h g', .inl ?_, hr.absorb hg hs trivial hgk hk trivial hne g' _ (AV.rin k h xss.length) rfl (fun b hb hn => r3.block b hb (hgb b hn)) r3.size ?_ (fun kp hv => hv.rin kp sv) ?_, ?_, ?_⟩
    · have r1' := r1
      simp only [execOp, resolve, invoke, builtin, Sem.run_bind, Sem.run_pure, Result.andThen_ok, List.map_toArray, List.map_cons, List.map_nil, hv, hu, r1']
    · intro b hb
      rcases List.mem_append.1 hb with hb | hb
      · have hb' := hv'b b hb
        refine ⟨?_, hlt b hb'⟩
        rcases r5 with r5 | r5
        · left
          rw [hb'] at r5
          exact Classical.byContradiction fun hn => hgb b hn r5
        · right; right
          rw [hb'] at r5; cases r5; exact Nat.le_refl _
      · rw [efl] at hb
        rcases List.mem_append.1 hb with hb | hb
        · have : b ∈ gh.bl := by rw [a7]; exact List.mem_append.2 (.inr hb)
          exact ⟨.inl this, Nat.lt_of_lt_of_le (hbl0 b this) r3.size⟩
        · exact ⟨.inr (.inl hb), Nat.lt_of_lt_of_le (hblk b hb) r3.size⟩
    · intro kp
      refine ⟨vs ++ [gk.v], bs ++ [gk.bl], v'.ownBlock.toList, ?_, by simp [a2], by simp [a3], rfl, fun j u hj => ?_, ?_, rfl, ?_⟩
      · simpa using r2
      · rw [List.getElem?_append] at hj
        split at hj
        · rename_i hjl
          obtain ⟨q1, q2, q3⟩ := a5 j u hj
          have g1 : (xss ++ [ys]).getD j [] = xss.getD j [] := by
            simp only [List.getD_eq_getElem?_getD]; rw [List.getElem?_append_left (by omega)]
          have g2 : (bs ++ [gk.bl]).getD j [] = bs.getD j [] := by
            simp only [List.getD_eq_getElem?_getD]; rw [List.getElem?_append_left (by omega)]
          rw [g1, g2]
          refine ⟨ownsRow_of_block q1 fun c hc => ?_, q2, q3⟩
          have hcf := rowblk j u hj c hc
          exact keep c (hbl0 c (by rw [a7]; exact List.mem_append.2 (.inr hcf))) fun hm => mbfl c hm hcf
        · rename_i hjl
          have hj0 : j = vs.length := by
            have := (List.getElem?_eq_some_iff.1 hj).1
            simp at this; omega
          subst hj0
          simp at hj
          subst hj
          have g1 : (xss ++ [ys]).getD vs.length [] = ys := by rw [a2]; simp [List.getD_eq_getElem?_getD]
          have g2 : (bs ++ [gk.bl]).getD vs.length [] = gk.bl := by rw [a2, ← a3]; simp [List.getD_eq_getElem?_getD]
          rw [g1, g2]
          refine ⟨ownsRow_of_block b1 fun c hc => ?_, b2, b3.list⟩
          have hcm := b3.mem hc
          exact keep c (hblk c hcm) fun hm => hdis c hcm (by rw [a7]; exact List.mem_append.2 (.inl hm))
      · show (v'.ownBlock = none ∧ v'.ownBlock.toList = []) ∨ (v'.ownBlock = some (v'.ownBlock.getD 0) ∧ v'.ownBlock.toList = [v'.ownBlock.getD 0])
        cases v'.ownBlock with
        | none => exact .inl ⟨rfl, rfl⟩
        | some b => exact .inr ⟨rfl, rfl⟩
      · show (v'.ownBlock.toList ++ (bs ++ [gk.bl]).flatten).Nodup
        rw [efl]
        refine nodup_rows a8' ?_ ?_ b3.nodup (fun b hb => by rw [← a7]; exact hdis b hb)
        · cases v'.ownBlock <;> simp
        · intro b hb
          have hb' := hv'b b hb
          rcases r5 with r5 | r5
          · rw [hb'] at r5
            have hm : b ∈ mb := by rw [← emb, ← r5]; simp
            exact ⟨mbfl b hm, fun hc => hdis b hc (by rw [a7]; exact List.mem_append.2 (.inl hm))⟩
          · rw [hb'] at r5
            cases r5
            refine ⟨fun hc => ?_, fun hc => ?_⟩
            · have := hbl0 w.heap.size (by rw [a7]; exact List.mem_append.2 (.inr hc)); omega
            · have := hblk w.heap.size hc; omega
    · exact RV.own (g := g') (by simp [hhg])
    · refine ⟨r3.os, r3.tape, r3.output, r3.size, fun b hb => r3.block b (by have := hr.hb; omega) (hgb b fun hm => ?_)⟩
      have := (hr.hn _ _ _ hg hs (by simp) b hm).1
      omega
end

section
variable {P : Program} {env : Env} {os : List AO} {d : Tmp} {ty : TypeId} {pos : String} {af : Array Edge} {l rest : List Oper} {K : APost}
theorem w_bsr0 {t e e2 : TypeId} {bytes : Nat} [TSlice P t e] [TElem P e (.slice none 0 0) bytes] [TSlice P e e2] {m : Nat} (hm : os.length = m) (h' : AOps P .seq l rest K (env.up d (.own m)) (os ++ [.sls e e2 []])) :
    AOps P .seq l (⟨some d, .buildSlice t 0 #[], ty, pos, af, none⟩ :: rest) K env os := AOps.lo (hm ▸ l_bsr0) h'
theorem w_bsr1 {t e e3 : TypeId} {bytes : Nat} [TSlice P t e] [TElem P e (.slice none 0 0) bytes] {x : Operand} {k m : Nat} {ys : List Int} (hx : evo env x = some (.own k)) (hk : os[k]? = some (.sli e3 ys)) (hm : os.length = m)
    (h' : AOps P .seq l rest K (env.up d (.osub m 0 1)) (os ++ [.bx e [.own k]])) :
    AOps P .seq l (⟨some d, .buildSlice t 1 #[(0, x)], ty, pos, af, none⟩ :: rest) K env os := AOps.lo (hm ▸ l_bsr1 (ev_of hx) hk) h'
theorem w_appr {t e e3 : TypeId} {bytes : Nat} [TSlice P t e] [TElem P e (.slice none 0 0) bytes] {x y : Operand} {h m k : Nat} {e' e2 T : TypeId} {xss : List (List Int)} {ys : List Int}
    (hx : evo env x = some (.own h)) (hs : os[h]? = some (.sls e' e2 xss)) (hee : e' = e) (hy : evo env y = some (.osub m 0 1)) (hm : os[m]? = some (.bx T [.own k])) (hk : os[k]? = some (.sli e3 ys)) (he3 : e3 = e2)
    (hb : (xss.length + 1) * bytes ≤ 140737488355328) (h' : AOps P .seq l rest K (Env.up (env.mp (AV.rin k h xss.length)) d (.own h)) (((os.map (AO.via (AV.rin k h xss.length) h)).set h (.sls e e2 (xss ++ [ys]))).set k .dead)) :
    AOps P .seq l (⟨some d, .call { callee := .builtin .append, args := #[x, y], argTypes := #[t, t] }, ty, pos, af, none⟩ :: rest) K env os :=
  AOps.lo (l_append_row (ev_of hx) hs hee (ev_of hy) hm hk he3 hb) h'
end
end Go.Proofs.Ytpllbdjobmgikaa
/-
  Own slices whose cells are rows of another own slice: literal ones, appends, cuts; the two made one. No condition.
-/
namespace Go.Proofs.Ytpllbdjobmgikaa
open Go Go.RowKit

theorem map_orow_kill (h k : Nat) (idx : List Nat) : (idx.map (AV.orow k)).map (AV.kill h) = idx.map (AV.orow k) := by
  rw [List.map_map]; rfl
theorem orow_kill (h k : Nat) (idx : List Nat) (j : Nat) : ((idx.map (AV.orow k)).getD j .any).kill h = (idx.map (AV.orow k)).getD j .any := by
  rw [← getD_map_kill, map_orow_kill]

section
variable {P : Program} {env : Env} {os : List AO} {d : Option Tmp} {ty : TypeId} {pos : String} {af : Array Edge} {g : Option (Nat × Bool)}

/-- An empty slice of rows. -/
theorem l_bsx0 {t e : TypeId} {bytes : Nat} [ht : TSlice P t e] [he : TElem P e (.slice none 0 0) bytes] (k : Nat) : LOp P ⟨d, .buildSlice t 0 #[], ty, pos, af, g⟩ env os (.own os.length) env (os ++ [.slr e (([] : List Nat).map (AV.orow k))]) := by
  refine l_new fun base w gs tm hr => ?_
  obtain ⟨ii, hi, hs, hz, hby⟩ := he.info
  refine ⟨w.alloc (.cells #[] e), ⟨.slice (some ⟨w.heap.size, 0, none⟩) 0 0, w.heap.size, [w.heap.size], []⟩, ?_, below_alloc w _, fun b hb => by simp at hb; simp [hb], fun ok gs' => ?_⟩
  · simp [execOp, Instr.buildSlice, run_underlying ht.und, sizeOf, typeInfo, hi, Instr.fill, newRow, ar0]
  · exact ⟨[], ⟨by simp, .inr ⟨w.heap.size, 0, _, rfl, hr.hb, heap_alloc_new w _, Nat.le_refl _, by simp [maxLen], by simp, by simp⟩⟩, rfl, fun i => .any _, .inr ⟨rfl, rfl⟩⟩

/-- A literal slice of one row of 'k'. -/
theorem l_bsx1 {t e : TypeId} {bytes : Nat} [ht : TSlice P t e] [he : TElem P e (.slice none 0 0) bytes] {x : Operand} {k i : Nat} {e2 e3 : TypeId} {xss : List (List Int)} (hx : AV.ev env x = .orow k i) (hk : os[k]? = some (.sls e2 e3 xss)) :
    LOp P ⟨d, .buildSlice t 1 #[(0, x)], ty, pos, af, g⟩ env os (.osub os.length 0 1) env (os ++ [.bx e [.orow k i]]) := by
  intro base w gs tm hr
  have hxv := hr.ev x
  rw [hx] at hxv
  generalize hv : Act.eval ⟨tm, []⟩ x = v at hxv
  cases hxv with
  | @orow _ _ gk _ hgk hrow =>
    obtain ⟨us, bs, mb, b1, b2, b3, b4, b5, _⟩ := hr.ho _ _ _ hgk hk
    have hu := hrow
    rw [b4] at hu
    obtain ⟨ua, uc, eu⟩ := ownsRow_slice (b5 _ _ hu).1
    obtain ⟨ii, hi, hs, hz, hby⟩ := he.info
    have hbel := below_alloc w (.cells [v].toArray e)
    have hlt : w.heap.size < (w.alloc (.cells [v].toArray e)).heap.size := by simp
    have hno : AO.bx e [.orow k i] ≠ .dead → ∀ b, b ∈ [w.heap.size] → w.heap.size ≤ b ∧ b < (w.alloc (.cells [v].toArray e)).heap.size := fun _ b hb => by simp at hb; omega
    let gn : Gh := ⟨.pointer (some ⟨w.heap.size, 0, none⟩), w.heap.size, [w.heap.size], []⟩
    have hgs : ∀ (i : Nat) g', gs[i]? = some g' → (gs ++ [gn])[i]? = some g' := fun i g' e => by
      rw [List.getElem?_append_left (List.getElem?_eq_some_iff.1 e).1]; exact e
    refine ⟨.slice (some ⟨w.heap.size, 0, none⟩) 1 1, _, gs ++ [gn], .inl ?_, hr.new hbel _ _ hno ?_, ?_, hbel.mono hr.hb⟩
    · simp [execOp, Instr.buildSlice, run_underlying ht.und, sizeOf, typeInfo, zeroValue, hi, hs, hz, Instr.fill, newRow, hv, eu, Value.cells, ar1]
    · refine ⟨[v], heap_alloc_new w _, hr.hb, rfl, rfl, rfl, ?_, fun i => ?_⟩
      · intro c hc; simp at hc; subst hc; rw [eu]; rfl
      · match i with
        | 0 => exact .orow (hgs _ _ hgk) hrow
        | i + 1 => exact .any _
    · have := RV.osub (w := w.alloc (.cells [v].toArray e)) (ok := okOf (gs ++ [gn]) (os ++ [.bx e [.orow k i]])) (off := 0) (len := 1) (cap := 1) (p := some ⟨w.heap.size, 0, none⟩) (len_new (gs := gs) (g := gn)) (fun _ => rfl) (Nat.le_refl _) (by simp [maxLen])
      rw [hr.hl] at this
      exact this

set_option maxHeartbeats 1000000 in
/-- One row is appended. -/
theorem l_append_x {t e : TypeId} {bytes : Nat} [ht : TSlice P t e] [he : TElem P e (.slice none 0 0) bytes] {x y : Operand} {h m k i : Nat} {e' T : TypeId} {idx : List Nat}
    (hx : AV.ev env x = .own h) (hs : os[h]? = some (.slr e' (idx.map (AV.orow k)))) (hee : e' = e) (hy : AV.ev env y = .osub m 0 1) (hm : os[m]? = some (.bx T [.orow k i])) (hb : (idx.length + 1) * bytes ≤ 140737488355328) :
    LOp P ⟨d, .call { callee := .builtin .append, args := #[x, y], argTypes := #[t, t] }, ty, pos, af, g⟩ env os (.own h) (env.mp (AV.kill h)) ((os.map (AO.kill h)).set h (.slr e ((idx ++ [i]).map (AV.orow k)))) := by
  subst hee
  intro base w gs tm hr
  have hxv := hr.ev x
  rw [hx] at hxv
  have hyv := hr.ev y
  rw [hy] at hyv
  generalize hv : Act.eval ⟨tm, []⟩ x = v at hxv
  generalize hu : Act.eval ⟨tm, []⟩ y = u at hyv
  cases hxv with
  | @own _ gh hg =>
  cases hyv with
  | @osub _ _ _ cap pa gm hgm hp hc hcm =>
    have epa := hp (by omega)
    subst epa
    obtain ⟨cs, m1, m2, m3, m4, m5, m6, m7⟩ := hr.ho _ _ _ hgm hm
    have hcs := m7 0
    simp only [List.getD_cons_zero] at hcs
    obtain ⟨c0, rfl⟩ : ∃ c0, cs = [c0] := by
      match cs, m5 with
      | [c0], _ => exact ⟨c0, rfl⟩
    simp only [List.getD_cons_zero] at hcs
    obtain ⟨vs, a1, a2, a3, a4⟩ := hr.ho _ _ _ hg hs
    have a2' : vs.length = idx.length := by simpa using a2
    obtain ⟨ii, hi, hsz, hz, hby⟩ := he.info
    have h64 : vs.length + 1 ≤ maxLen := by
      have := he.pos
      have : idx.length + 1 ≤ (idx.length + 1) * bytes := Nat.le_mul_of_pos_right _ this
      simp only [maxLen]; omega
    obtain ⟨v', w', r1, r2, r3, r4, r5⟩ := run_append_own_at (P := P) w base t ty e' ii _ 1 bytes ht.und hi hz hsz hby rfl (by omega) gh.v vs.length vs a1 ⟨gm.b, 0, none⟩ 1 cap [c0] (by simp)
      (fun j u hj => by
        have hj0 : j = 0 := by have := (List.getElem?_eq_some_iff.1 hj).1; simp at this; exact this
        subst hj0
        rw [add_none, cell_of_row w _ _ _ _ (0, 0) m1]
        simpa using hj)
      (fun u hu => by simp at hu; subst hu; exact m6 _ (by simp)) h64 (by rw [a2']; exact hb) hr.hb
    have hgb : ∀ b, b ∉ gh.bl → some b ≠ gh.v.ownBlock := fun b hb e => hb (a4.mem e.symm)
    let g' : Gh := ⟨v', v'.ownBlock.getD 0, v'.ownBlock.toList, gh.rows⟩
    have hgb' : GB g' := by
      show (v'.ownBlock = none ∧ v'.ownBlock.toList = []) ∨ (v'.ownBlock = some (v'.ownBlock.getD 0) ∧ v'.ownBlock.toList = [v'.ownBlock.getD 0])
      cases v'.ownBlock with
      | none => exact .inl ⟨rfl, rfl⟩
      | some b => exact .inr ⟨rfl, rfl⟩
    have hlt : ∀ b, v'.ownBlock = some b → b < w'.heap.size := by
      intro b hb
      rcases r2.2 with ⟨e1, _⟩ | ⟨gg, cc, cur, e1, _, hgg, _⟩
      · rw [e1] at hb; cases hb
      · rw [e1] at hb; cases hb; exact (Array.getElem?_eq_some_iff.1 hgg).1
    refine ⟨v', w', gs.set h g', .inl ?_, hr.turn hg hs trivial g' (.slr e' ((idx ++ [i]).map (AV.orow k))) (fun b hb hn => r3.block b hb (hgb b hn)) r3.size ?_ (fun i v hv => hv) ?_, ?_, ?_⟩
    · have r1' := r1
      simp only [execOp, resolve, invoke, builtin, Sem.run_bind, Sem.run_pure, Result.andThen_ok, List.map_toArray, List.map_cons, List.map_nil, hv, hu, r1']
    · intro b hb
      have hb' : v'.ownBlock = some b := by
        have hb2 : b ∈ v'.ownBlock.toList := hb
        cases hvb : v'.ownBlock with
        | none => rw [hvb] at hb2; simp at hb2
        | some c => rw [hvb] at hb2; simp at hb2; rw [hb2]
      refine ⟨?_, hlt b hb'⟩
      rcases r5 with r5 | r5
      · left; rw [hb'] at r5; exact a4.mem r5.symm
      · right; rw [hb'] at r5; cases r5; exact Nat.le_refl _
    · intro kp tn
      refine ⟨vs ++ [c0], by simpa using r2, by simp [a2'], fun j => ?_, hgb'⟩
      rcases Nat.lt_trichotomy j vs.length with hj | hj | hj
      · have e1 : (vs ++ [c0]).getD j undef = vs.getD j undef := by simp only [List.getD_eq_getElem?_getD]; rw [List.getElem?_append_left hj]
        have e2 : ((idx ++ [i]).map (AV.orow k)).getD j .any = (idx.map (AV.orow k)).getD j .any := by
          rw [List.map_append]; simp only [List.getD_eq_getElem?_getD]; rw [List.getElem?_append_left (by simp; omega)]
        rw [e1, e2, ← orow_kill h]
        exact (a3 j).kill kp tn
      · subst hj
        have e1 : (vs ++ [c0]).getD vs.length undef = c0 := by simp [List.getD_eq_getElem?_getD]
        have e2 : ((idx ++ [i]).map (AV.orow k)).getD vs.length .any = .orow k i := by
          rw [List.map_append, a2']; simp [List.getD_eq_getElem?_getD]
        rw [e1, e2]
        exact hcs.kill (h := h) kp tn
      · have e2 : ((idx ++ [i]).map (AV.orow k)).getD j .any = .any := by
          rw [List.getD_eq_getElem?_getD, List.getElem?_eq_none (by simp; omega)]; rfl
        rw [e2]
        exact .any _
    · have hk : h < gs.length := (List.getElem?_eq_some_iff.1 hg).1
      exact RV.own (g := g') (by simp [hk])
    · refine ⟨r3.os, r3.tape, r3.output, r3.size, fun b hb => r3.block b (by have := hr.hb; omega) (hgb b fun hm => ?_)⟩
      have := (hr.hn _ _ _ hg hs (by simp) b hm).1
      omega

/-- The slice is cut behind. -/
theorem l_cut_x {t e : TypeId} [ht : TSlice P t e] [he : TCell P e] {x y : Operand} {h k : Nat} {e' : TypeId} {idx : List Nat} {n : Int} (hx : AV.ev env x = .own h) (hs : os[h]? = some (.slr e' (idx.map (AV.orow k)))) (hy : AV.ev env y = .i n) (h0 : 0 < n) (h1 : n ≤ idx.length) :
    LOp P ⟨d, .slice t x none (some y) none, ty, pos, af, g⟩ env os (.own h) (env.mp (AV.kill h)) ((os.map (AO.kill h)).set h (.slr e' ((idx.take n.toNat).map (AV.orow k)))) := by
  intro base w gs tm hr
  have hxv := hr.ev x
  rw [hx] at hxv
  generalize hv : Act.eval ⟨tm, []⟩ x = v at hxv
  cases hxv with
  | @own _ gh hg =>
    obtain ⟨vs, a1, a2, a3, a4⟩ := hr.ho _ _ _ hg hs
    have a2' : vs.length = idx.length := by simpa using a2
    rcases a1.2 with ⟨_, c2⟩ | ⟨gg, cap, cur, c1, c2, c3, c4, c5, c6, c7⟩
    · omega
    have e1 := elem_of (P := P) ht.und
    have hrun := run_slice_h (P := P) w t (some ⟨gg, 0, none⟩) vs.length cap (by rw [e1]; exact ht.und) .i64 n (by omega) (by omega)
    rw [e1, run_size] at hrun
    have hat := run_sliceAt_slice (P := P) w t (.slice (some ⟨gg, 0, none⟩) vs.length cap) none (some (.int .i64 n)) none (by rw [e1]; exact ht.und)
    have ev' : sliced (some ⟨gg, 0, none⟩) 0 n.toNat cap 1 = .slice (some ⟨gg, 0, none⟩) n.toNat cap := by
      rw [sliced, if_neg (by omega)]; simp [add_none]
    let g' : Gh := ⟨.slice (some ⟨gg, 0, none⟩) n.toNat cap, gh.b, gh.bl, gh.rows⟩
    have egg : gh.b = gg ∧ gh.bl = [gg] := by
      rcases a4 with ⟨q1, _⟩ | ⟨q1, q2⟩
      · rw [c1] at q1; cases q1
      · rw [c1] at q1; cases q1; exact ⟨rfl, q2⟩
    have hlt : gg < w.heap.size := (Array.getElem?_eq_some_iff.1 c3).1
    refine ⟨.slice (some ⟨gg, 0, none⟩) n.toNat cap, w, gs.set h g', .inl ?_, hr.turn hg hs trivial g' (.slr e' ((idx.take n.toNat).map (AV.orow k))) (fun b hb hn => rfl) (Nat.le_refl _) (fun b hb => ⟨.inl hb, ?_⟩) (fun i v hv => hv) ?_, ?_, Below.refl _ _⟩
    · simp only [execOp, hv, c1, hr.evv hy, Option.map_none, Option.map_some, Sem.run_bind, hat, hrun, Result.andThen_ok, Sem.run_pure, ev']
    · have hb2 : b ∈ gh.bl := hb
      rw [egg.2] at hb2
      simp at hb2
      omega
    · intro kp tn
      refine ⟨vs.take n.toNat, ⟨by simp, .inr ⟨gg, cap, cur, ?_, c2, c3, ?_, c5, c6, ?_⟩⟩, by simp; omega, fun j => ?_, .inr ⟨?_, ?_⟩⟩
      · show Value.slice (some ⟨gg, 0, none⟩) n.toNat cap = _
        have : (vs.take n.toNat).length = n.toNat := by simp; omega
        rw [this]
      · simp; omega
      · rw [← c7, List.take_take]
        congr 1
        simp; omega
      · by_cases hj : j < n.toNat
        · have q1 : (vs.take n.toNat).getD j undef = vs.getD j undef := by simp only [List.getD_eq_getElem?_getD]; rw [List.getElem?_take, if_pos hj]
          have q2 : ((idx.take n.toNat).map (AV.orow k)).getD j .any = (idx.map (AV.orow k)).getD j .any := by
            rw [List.map_take]; simp only [List.getD_eq_getElem?_getD]; rw [List.getElem?_take, if_pos hj]
          rw [q1, q2, ← orow_kill h]
          exact (a3 j).kill kp tn
        · have q2 : ((idx.take n.toNat).map (AV.orow k)).getD j .any = .any := by
            rw [List.getD_eq_getElem?_getD, List.getElem?_eq_none (by simp; omega)]; rfl
          rw [q2]
          exact .any _
      · show Value.ownBlock (Value.slice (some ⟨gg, 0, none⟩) n.toNat cap) = some gh.b
        rw [egg.1]; rfl
      · show gh.bl = [gh.b]
        rw [egg.2, egg.1]
    · have hk : h < gs.length := (List.getElem?_eq_some_iff.1 hg).1
      exact RV.own (g := g') (by simp [hk])
end

theorem nodup_sel {bs : List (List Nat)} {idx : List Nat} (h : bs.flatten.Nodup) (hi : idx.Nodup) (hlt : ∀ i ∈ idx, i < bs.length) : ((idx.map fun i => bs.getD i []).flatten).Nodup := by
  unfold List.Nodup at h ⊢
  rw [List.pairwise_flatten] at h ⊢
  obtain ⟨h1, h2⟩ := h
  refine ⟨?_, ?_⟩
  · intro l hl
    obtain ⟨i, hi', rfl⟩ := List.mem_map.1 hl
    have := hlt i hi'
    rw [List.getD_eq_getElem?_getD, List.getElem?_eq_getElem this]
    exact h1 _ (List.getElem_mem this)
  · rw [List.pairwise_map]
    refine List.Pairwise.imp_of_mem ?_ hi
    intro a b ha hb hab
    have la := hlt a ha
    have lb := hlt b hb
    rw [List.getD_eq_getElem?_getD, List.getElem?_eq_getElem la, List.getD_eq_getElem?_getD, List.getElem?_eq_getElem lb]
    rw [List.pairwise_iff_getElem] at h2
    rcases Nat.lt_or_gt_of_ne hab with hl | hl
    · exact h2 a b la lb hl
    · exact fun x hx y hy e => h2 b a lb la hl y hy x hx e.symm

set_option maxHeartbeats 1000000 in
/-- The slice 'p' of rows of 'k' takes these rows; the rest of 'k' is no more. -/
theorem Rel.merge {base : Nat} {w : World} {gs : List Gh} {env : Env} {os : List AO} {tm : Array Value} (h : Rel base w gs env os tm) {p k : Nat} {e e2 e3 : TypeId} {xss : List (List Int)} {idx : List Nat} (hs : os[p]? = some (.slr e (idx.map (AV.orow k)))) (hk : os[k]? = some (.sls e3 e2 xss)) (hnd : idx.Nodup) :
    ∃ gs', Rel base w gs' (env.mp (AV.noRow p)) (((os.map (AO.via (AV.noRow p) p)).set p (.sls e e2 (idx.map fun i => xss.getD i []))).set k .dead) tm := by
  have hne : p ≠ k := fun e => by subst e; rw [hs] at hk; cases hk
  have hpo : p < os.length := (List.getElem?_eq_some_iff.1 hs).1
  have hko : k < os.length := (List.getElem?_eq_some_iff.1 hk).1
  obtain ⟨gp, hgp⟩ : ∃ x, gs[p]? = some x := ⟨_, List.getElem?_eq_getElem (by rw [h.hl]; exact hpo)⟩
  obtain ⟨gk, hgk⟩ : ∃ x, gs[k]? = some x := ⟨_, List.getElem?_eq_getElem (by rw [h.hl]; exact hko)⟩
  obtain ⟨vs, a1, a2, a3, a4⟩ := h.ho _ _ _ hgp hs
  obtain ⟨us, bs, mb, b1, b2, b3, b4, b5, b6, b7, b8⟩ := h.ho _ _ _ hgk hk
  have a2' : vs.length = idx.length := by simpa using a2
  have row : ∀ (j : Nat) u, vs[j]? = some u → ∃ i, idx[j]? = some i ∧ us[i]? = some u := by
    intro j u hj
    have hjl := (List.getElem?_eq_some_iff.1 hj).1
    have hrv := a3 j
    obtain ⟨i, hi⟩ : ∃ i, idx[j]? = some i := ⟨_, List.getElem?_eq_getElem (by omega)⟩
    rw [List.getD_eq_getElem?_getD, hj, List.getD_eq_getElem?_getD, List.getElem?_map, hi] at hrv
    simp only [Option.getD_some, Option.map_some] at hrv
    cases hrv with
    | @orow _ _ g0 _ q1 q2 =>
      rw [hgk] at q1
      cases q1
      rw [b4] at q2
      exact ⟨i, hi, q2⟩
  have hidx : ∀ i ∈ idx, i < bs.length := by
    intro i hi
    obtain ⟨j, hj⟩ := List.getElem?_of_mem hi
    have hjl := (List.getElem?_eq_some_iff.1 hj).1
    obtain ⟨i', q1, q2⟩ := row j _ (List.getElem?_eq_getElem (by omega))
    rw [hj] at q1
    cases q1
    have := (List.getElem?_eq_some_iff.1 q2).1
    omega
  let cs : List (List Nat) := idx.map fun i => bs.getD i []
  let g' : Gh := ⟨gp.v, gp.b, gp.bl ++ cs.flatten, vs⟩
  have hcs : ∀ b, b ∈ cs.flatten → b ∈ bs.flatten := by
    intro b hb
    obtain ⟨l, hl, hbl⟩ := List.mem_flatten.1 hb
    obtain ⟨i, hi, rfl⟩ := List.mem_map.1 hl
    have hil := hidx i hi
    rw [List.getD_eq_getElem?_getD, List.getElem?_eq_getElem hil] at hbl
    exact List.mem_flatten.2 ⟨_, List.getElem_mem hil, hbl⟩
  have hsk : ∀ b, b ∈ cs.flatten → b ∈ gk.bl := fun b hb => by rw [b7]; exact List.mem_append.2 (.inr (hcs b hb))
  have hgl : p < gs.length := by rw [h.hl]; exact hpo
  have sv : SameV p gs (gs.set p g') := by
    refine ⟨fun j z hj hz => ?_, fun z hz => ⟨g', by simp [hgl], ?_, ?_⟩⟩
    · rw [List.getElem?_set, if_neg (fun e => hj e.symm)]; exact hz
    · rw [hgp] at hz; cases hz; rfl
    · rw [hgp] at hz; cases hz; rfl
  refine ⟨gs.set p g', h.absorb hgp hs trivial hgk hk trivial hne g' _ (AV.noRow p) rfl (fun _ _ _ => rfl) (Nat.le_refl _) ?_ (fun kp hv => hv.noRow kp sv) ?_⟩
  · intro b hb
    rcases List.mem_append.1 hb with hb | hb
    · exact ⟨.inl hb, (h.hn _ _ _ hgp hs (by simp) b hb).2⟩
    · exact ⟨.inr (.inl (hsk b hb)), (h.hn _ _ _ hgk hk (by simp) b (hsk b hb)).2⟩
  · intro kp
    refine ⟨vs, cs, gp.bl, a1, by simp [a2'], by simp [cs], rfl, fun j u hj => ?_, a4, rfl, ?_⟩
    · obtain ⟨i, q1, q2⟩ := row j u hj
      have g1 : (idx.map fun i => xss.getD i []).getD j [] = xss.getD i [] := by
        rw [List.getD_eq_getElem?_getD, List.getElem?_map, q1]; rfl
      have g2 : cs.getD j [] = bs.getD i [] := by
        show (idx.map fun i => bs.getD i []).getD j [] = _
        rw [List.getD_eq_getElem?_getD, List.getElem?_map, q1]; rfl
      rw [g1, g2]
      exact b5 i u q2
    · show (gp.bl ++ cs.flatten).Nodup
      rw [List.nodup_append]
      refine ⟨a4.nodup, nodup_sel ?_ hnd hidx, ?_⟩
      · rw [b7] at b8
        exact (List.nodup_append.1 b8).2.1
      · intro a ha b hb e
        subst e
        exact h.hd p k gp gk _ _ hne hgp hgk hs hk (by simp) (by simp) a ha (hsk a hb)

theorem AWp.merge {P : Program} {c : Code} {N : APost} {X : Nat → APost} {Rt : APost} {env : Env} {os : List AO} {p k : Nat} {e e2 e3 : TypeId} {xss : List (List Int)} {idx : List Nat} (hs : os[p]? = some (.slr e (idx.map (AV.orow k)))) (hk : os[k]? = some (.sls e3 e2 xss)) (hnd : idx.Nodup)
    (h : AWp P c N X Rt (env.mp (AV.noRow p)) (((os.map (AO.via (AV.noRow p) p)).set p (.sls e e2 (idx.map fun i => xss.getD i []))).set k .dead)) : AWp P c N X Rt env os := by
  intro base w0 w gs tm hr hb
  obtain ⟨gs', hr'⟩ := hr.merge hs hk hnd
  exact h base w0 w gs' tm hr' hb

section
variable {P : Program} {env : Env} {os : List AO} {d : Tmp} {ty : TypeId} {pos : String} {af : Array Edge} {l rest : List Oper} {K : APost}
theorem w_bsx0 {t e : TypeId} {bytes : Nat} [TSlice P t e] [TElem P e (.slice none 0 0) bytes] {m : Nat} (k : Nat) (hm : os.length = m) (h' : AOps P .seq l rest K (env.up d (.own m)) (os ++ [.slr e (([] : List Nat).map (AV.orow k))])) :
    AOps P .seq l (⟨some d, .buildSlice t 0 #[], ty, pos, af, none⟩ :: rest) K env os := AOps.lo (hm ▸ l_bsx0 k) h'
theorem w_bsx1 {t e : TypeId} {bytes : Nat} [TSlice P t e] [TElem P e (.slice none 0 0) bytes] {x : Operand} {k i m : Nat} {e2 e3 : TypeId} {xss : List (List Int)} (hx : evo env x = some (.orow k i)) (hk : os[k]? = some (.sls e2 e3 xss)) (hm : os.length = m)
    (h' : AOps P .seq l rest K (env.up d (.osub m 0 1)) (os ++ [.bx e [.orow k i]])) :
    AOps P .seq l (⟨some d, .buildSlice t 1 #[(0, x)], ty, pos, af, none⟩ :: rest) K env os := AOps.lo (hm ▸ l_bsx1 (ev_of hx) hk) h'
theorem w_appx {t e : TypeId} {bytes : Nat} [TSlice P t e] [TElem P e (.slice none 0 0) bytes] {x y : Operand} {h m k i : Nat} {e' T : TypeId} {idx : List Nat}
    (hx : evo env x = some (.own h)) (hs : os[h]? = some (.slr e' (idx.map (AV.orow k)))) (hee : e' = e) (hy : evo env y = some (.osub m 0 1)) (hm : os[m]? = some (.bx T [.orow k i])) (hb : (idx.length + 1) * bytes ≤ 140737488355328)
    (h' : AOps P .seq l rest K (Env.up (env.mp (AV.kill h)) d (.own h)) ((os.map (AO.kill h)).set h (.slr e ((idx ++ [i]).map (AV.orow k))))) :
    AOps P .seq l (⟨some d, .call { callee := .builtin .append, args := #[x, y], argTypes := #[t, t] }, ty, pos, af, none⟩ :: rest) K env os := AOps.lo (l_append_x (ev_of hx) hs hee (ev_of hy) hm hb) h'
theorem w_cutx {t e : TypeId} [TSlice P t e] [TCell P e] {x y : Operand} {h k : Nat} {e' : TypeId} {idx : List Nat} {n : Int} (hx : evo env x = some (.own h)) (hs : os[h]? = some (.slr e' (idx.map (AV.orow k)))) (hy : evo env y = some (.i n)) (h0 : 0 < n) (h1 : n ≤ idx.length)
    (h' : AOps P .seq l rest K (Env.up (env.mp (AV.kill h)) d (.own h)) ((os.map (AO.kill h)).set h (.slr e' ((idx.take n.toNat).map (AV.orow k))))) :
    AOps P .seq l (⟨some d, .slice t x none (some y) none, ty, pos, af, none⟩ :: rest) K env os := AOps.lo (l_cut_x (ev_of hx) hs (ev_of hy) h0 h1) h'
end
end Go.Proofs.Ytpllbdjobmgikaa
/-
  Own slices put together out of rows of another one and of one more row; functions that are handed an own slice of rows and hand one back in its place. No condition.
-/
namespace Go.Proofs.Ytpllbdjobmgikaa
open Go Go.RowKit

/-- Object 'p' takes the blocks of the objects 'k' and 'm', which are no more. -/
theorem Rel.absorb2 {base : Nat} {w w' : World} {gs : List Gh} {env : Env} {os : List AO} {tm : Array Value} (h : Rel base w gs env os tm) {p k : Nat} {g gk : Gh} {o ok : AO} (hg : gs[p]? = some g) (ho : os[p]? = some o) (hlv : o.live)
    (hgk : gs[k]? = some gk) (hok : os[k]? = some ok) (hlk : ok.live) (hpk : p ≠ k) {m : Nat} {gm : Gh} {om : AO} (hgm : gs[m]? = some gm) (hom : os[m]? = some om) (hlm : om.live) (hpm : p ≠ m) (g' : Gh) (o' : AO) (f : AV → AV) (hf : f .any = .any)
    (hw : ∀ b, b < w.heap.size → b ∉ g.bl → w'.heap[b]? = w.heap[b]?) (hsz : w.heap.size ≤ w'.heap.size)
    (hbl : ∀ b, b ∈ g'.bl → (b ∈ g.bl ∨ b ∈ gk.bl ∨ b ∈ gm.bl ∨ w.heap.size ≤ b) ∧ b < w'.heap.size)
    (hrv : ∀ {ok' : Nat → Prop} {v : Value} {a : AV}, Keeps (okOf gs os) ok' w w' → RV w (okOf gs os) gs v a → RV w' ok' (gs.set p g') v (f a))
    (hro : Keeps (okOf gs os) (okOf (gs.set p g') ((((os.map (AO.via f p)).set p o').set k .dead).set m .dead)) w w' → RO base w' (okOf (gs.set p g') ((((os.map (AO.via f p)).set p o').set k .dead).set m .dead)) (gs.set p g') g' o') :
    Rel base w' (gs.set p g') (env.mp f) ((((os.map (AO.via f p)).set p o').set k .dead).set m .dead) tm := by
  have hnd := hlv.ne
  have hnk := hlk.ne
  have hnm := hlm.ne
  have hpg : p < gs.length := (List.getElem?_eq_some_iff.1 hg).1
  have hpo : p < os.length := (List.getElem?_eq_some_iff.1 ho).1
  have hko : k < os.length := (List.getElem?_eq_some_iff.1 hok).1
  have hmo : m < os.length := (List.getElem?_eq_some_iff.1 hom).1
  have gset : ∀ {i : Nat} {x : Gh}, (gs.set p g')[i]? = some x → (i = p ∧ x = g') ∨ (i ≠ p ∧ gs[i]? = some x) := by
    intro i x e
    rw [List.getElem?_set] at e
    split at e
    · subst_vars; simp at e; exact .inl ⟨rfl, e.symm⟩
    · exact .inr ⟨fun e' => by simp_all, e⟩
  -- an object of the new state that is there
  have oset : ∀ {i : Nat} {x : AO}, ((((os.map (AO.via f p)).set p o').set k .dead).set m .dead)[i]? = some x → x ≠ .dead → i ≠ k ∧ i ≠ m ∧ ((i = p ∧ x = o') ∨ (i ≠ p ∧ ∃ y, os[i]? = some y ∧ x = y.via f p)) := by
    intro i x e hx
    rw [List.getElem?_set] at e
    split at e
    · subst_vars; simp [hmo] at e; exact absurd e.symm hx
    rename_i him
    rw [List.getElem?_set] at e
    split at e
    · subst_vars; simp [hko] at e; exact absurd e.symm hx
    · rename_i hik
      refine ⟨fun e' => hik e'.symm, fun e' => him e'.symm, ?_⟩
      rw [List.getElem?_set] at e
      split at e
      · subst_vars; simp [hpo] at e; exact .inl ⟨rfl, e.symm⟩
      · refine .inr ⟨fun e' => by simp_all, ?_⟩
        rw [List.getElem?_map] at e
        cases hy : os[i]? with
        | none => simp [hy] at e
        | some y => simp [hy] at e; exact ⟨y, rfl, e.symm⟩
  have kp : Keeps (okOf gs os) (okOf (gs.set p g') ((((os.map (AO.via f p)).set p o').set k .dead).set m .dead)) w w' := by
    intro b hb hlt
    refine ⟨?_, hw b hlt (hb p g o hg ho hlv)⟩
    intro i x y hx hy hny hmem
    obtain ⟨hik, him, hy'⟩ := oset hy hny.ne
    rcases gset hx with ⟨rfl, rfl⟩ | ⟨hi, hx'⟩
    · rcases (hbl b hmem).1 with h1 | h1 | h1 | h1
      · exact hb i g o hg ho hlv h1
      · exact hb k gk ok hgk hok hlk h1
      · exact hb m gm om hgm hom hlm h1
      · omega
    · rcases hy' with ⟨rfl, rfl⟩ | ⟨_, z, hz, rfl⟩
      · exact hi rfl
      · exact hb i x z hx' hz (AO.via_live.1 hny) hmem
  refine ⟨Nat.le_trans h.hb hsz, by simp [h.hl], h.hs, fun i => by rw [Env.lk_mp _ hf]; exact hrv kp (h.he i), ?_, ?_, ?_⟩
  · intro i x y hx hy
    by_cases hyd : y = .dead
    · subst hyd; trivial
    · obtain ⟨hik, him, hy'⟩ := oset hy hyd
      rcases gset hx with ⟨rfl, rfl⟩ | ⟨hi, hx'⟩
      · rcases hy' with ⟨_, rfl⟩ | ⟨hi, _⟩
        · exact hro kp
        · exact absurd rfl hi
      · rcases hy' with ⟨rfl, rfl⟩ | ⟨_, z, hz, rfl⟩
        · exact absurd rfl hi
        · have hz' := h.ho i x z hx' hz
          have same : z ≠ .dead → ∀ b, b ∈ x.bl → w'.heap[b]? = w.heap[b]? := fun hn b hb =>
            hw b (h.hn i x z hx' hz hn b hb).2 (h.hd i p x g z o hi hx' hg hz ho hn hnd b hb)
          cases z with
          | ob q => exact q.up (fun b hb => same (by simp) b hb) hz'
          | bx T avs =>
            obtain ⟨cs, h1, h2, h3, h4, h5, h6, h7⟩ := hz'
            exact ⟨cs, by rw [same (by simp) x.b (by simp [h3])]; exact h1, h2, h3, h4, by simpa using h5, h6, fun j => by rw [getD_map_f _ hf]; exact hrv kp (h7 j)⟩
          | keep n K =>
            obtain ⟨h1, h2, h3⟩ := hz'
            have hs : ∀ b, b ∈ x.bl → w'.heap[b]? = K.snap b := fun b hb => by rw [same (by simp) b hb]; exact h1 b hb
            simp only [AO.via]
            split
            · exact ⟨hs, rfl, fun i x hx => by simp at hx⟩
            · refine ⟨hs, h2, fun i y hy => ?_⟩
              have := (List.getElem?_eq_some_iff.1 hy).1
              rw [List.getElem?_set, if_neg (by omega)]
              exact h3 i y hy
          | dead => trivial
          | sli e xs =>
            obtain ⟨h1, h2, h3⟩ := hz'
            exact ⟨ownsRow_of_block h1 fun b hb => same (by simp) b (h3.mem hb), h2, h3⟩
          | slr e avs =>
            obtain ⟨vs, h1, h2, h3, h4⟩ := hz'
            exact ⟨vs, ownsRow_of_block h1 fun b hb => same (by simp) b (h4.mem hb), by simpa using h2, fun j => by rw [getD_map_f _ hf]; exact hrv kp (h3 j), h4⟩
          | sls e e2 xss =>
            obtain ⟨vs, bs, mb, h1, h2, h3, h4, h5, h6, h7, h8⟩ := hz'
            refine ⟨vs, bs, mb, ownsRow_of_block h1 fun b hb => same (by simp) b ?_, h2, h3, h4, fun i u hu => ?_, h6, h7, h8⟩
            · rw [h7]
              rcases h6 with ⟨h6, _⟩ | ⟨h6, h6'⟩
              · rw [h6] at hb; cases hb
              · rw [h6] at hb; cases hb; simp [h6']
            · obtain ⟨r1, r2, r3⟩ := h5 i u hu
              refine ⟨ownsRow_of_block r1 fun b hb => same (by simp) b ?_, r2, r3⟩
              rw [h7]
              refine List.mem_append.2 (.inr (List.mem_flatten.2 ⟨bs.getD i [], ?_, by rw [← r3, hb]; simp⟩))
              have hi : i < bs.length := by
                have := (List.getElem?_eq_some_iff.1 hu).1
                omega
              rw [List.getD_eq_getElem?_getD, List.getElem?_eq_getElem hi]
              simp
  · -- what p has now is apart from all others
    have apart : ∀ {j : Nat} {x : Gh} {z : AO}, j ≠ p → j ≠ k → j ≠ m → gs[j]? = some x → os[j]? = some z → z ≠ .dead → ∀ b, b ∈ g'.bl → b ∉ x.bl := by
      intro j x z hjp hjk hjm hx hz hzn b hb hb2
      rcases (hbl b hb).1 with h1 | h1 | h1 | h1
      · exact h.hd p j g x o z (fun e => hjp e.symm) hg hx ho hz hnd hzn b h1 hb2
      · exact h.hd k j gk x ok z (fun e => hjk e.symm) hgk hx hok hz hnk hzn b h1 hb2
      · exact h.hd m j gm x om z (fun e => hjm e.symm) hgm hx hom hz hnm hzn b h1 hb2
      · have := (h.hn j x z hx hz hzn b hb2).2; omega
    intro i j g1 g2 o1 o2 hij hg1 hg2 ho1 ho2 hn1 hn2 b hb1 hb2
    obtain ⟨hik, him, ho1'⟩ := oset ho1 hn1
    obtain ⟨hjk, hjm, ho2'⟩ := oset ho2 hn2
    rcases gset hg1 with ⟨rfl, rfl⟩ | ⟨hi, hg1'⟩
    · rcases gset hg2 with ⟨rfl, _⟩ | ⟨hj, hg2'⟩
      · exact hij rfl
      · rcases ho2' with ⟨rfl, _⟩ | ⟨_, z, hz, rfl⟩
        · exact hij rfl
        · exact apart hj hjk hjm hg2' hz (fun e => hn2 (AO.via_dead.2 e)) b hb1 hb2
    · rcases ho1' with ⟨rfl, _⟩ | ⟨_, z, hz, rfl⟩
      · exact absurd rfl hi
      · have hzn : z ≠ .dead := fun e => hn1 (AO.via_dead.2 e)
        rcases gset hg2 with ⟨rfl, rfl⟩ | ⟨hj, hg2'⟩
        · exact apart hi hik him hg1' hz hzn b hb2 hb1
        · rcases ho2' with ⟨rfl, _⟩ | ⟨_, y, hy, rfl⟩
          · exact absurd rfl hj
          · exact h.hd i j g1 g2 z y hij hg1' hg2' hz hy hzn (fun e => hn2 (AO.via_dead.2 e)) b hb1 hb2
  · intro i x y hx hy hny b hb
    obtain ⟨hik, him, hy'⟩ := oset hy hny
    rcases gset hx with ⟨rfl, rfl⟩ | ⟨hi, hx'⟩
    · have := hbl b hb
      refine ⟨?_, this.2⟩
      rcases this.1 with h1 | h1 | h1 | h1
      · exact (h.hn i g o hg ho hnd b h1).1
      · exact (h.hn k gk ok hgk hok hnk b h1).1
      · exact (h.hn m gm om hgm hom hnm b h1).1
      · exact Nat.le_trans h.hb h1
    · rcases hy' with ⟨rfl, rfl⟩ | ⟨_, z, hz, rfl⟩
      · exact absurd rfl hi
      · have := h.hn i x z hx' hz (fun e => hny (AO.via_dead.2 e)) b hb
        exact ⟨this.1, Nat.lt_of_lt_of_le this.2 hsz⟩


theorem nodup_append3 {a b c : List Nat} (ha : a.Nodup) (hb : b.Nodup) (hc : c.Nodup) (hab : ∀ x ∈ a, x ∉ b) (hac : ∀ x ∈ a, x ∉ c) (hbc : ∀ x ∈ b, x ∉ c) : (a ++ (b ++ c)).Nodup := by
  rw [List.nodup_append]
  refine ⟨ha, ?_, ?_⟩
  · rw [List.nodup_append]
    exact ⟨hb, hc, fun x hx y hy e => hbc x hx (e ▸ hy)⟩
  · intro x hx y hy e
    subst e
    rcases List.mem_append.1 hy with hy | hy
    · exact hab x hx hy
    · exact hac x hx hy

set_option maxHeartbeats 2000000 in
/-- The slice 'p' of rows of 'k', with the row 'm' among them, takes them all; 'k' and 'm' are no more. -/
theorem Rel.gather {base : Nat} {w : World} {gs : List Gh} {env : Env} {os : List AO} {tm : Array Value} (h : Rel base w gs env os tm) {p k m : Nat} {e e2 e3 e4 : TypeId} {xss : List (List Int)} {ys : List Int} {i1 i2 : List Nat}
    (hs : os[p]? = some (.slr e (i1.map (AV.orow k) ++ .own m :: i2.map (AV.orow k)))) (hk : os[k]? = some (.sls e3 e2 xss)) (hm : os[m]? = some (.sli e4 ys)) (he : e4 = e2) (hnd : (i1 ++ i2).Nodup) :
    ∃ gs', Rel base w gs' (env.mp (AV.noRow p)) ((((os.map (AO.via (AV.noRow p) p)).set p (.sls e e2 (i1.map (fun i => xss.getD i []) ++ ys :: i2.map fun i => xss.getD i []))).set k .dead).set m .dead) tm := by
  subst he
  have hne : p ≠ k := fun e => by subst e; rw [hs] at hk; cases hk
  have hnm : p ≠ m := fun e => by subst e; rw [hs] at hm; cases hm
  have hkm : k ≠ m := fun e => by subst e; rw [hk] at hm; cases hm
  have hpo : p < os.length := (List.getElem?_eq_some_iff.1 hs).1
  have hko : k < os.length := (List.getElem?_eq_some_iff.1 hk).1
  have hmo : m < os.length := (List.getElem?_eq_some_iff.1 hm).1
  obtain ⟨gp, hgp⟩ : ∃ x, gs[p]? = some x := ⟨_, List.getElem?_eq_getElem (by rw [h.hl]; exact hpo)⟩
  obtain ⟨gk, hgk⟩ : ∃ x, gs[k]? = some x := ⟨_, List.getElem?_eq_getElem (by rw [h.hl]; exact hko)⟩
  obtain ⟨gm, hgm⟩ : ∃ x, gs[m]? = some x := ⟨_, List.getElem?_eq_getElem (by rw [h.hl]; exact hmo)⟩
  obtain ⟨vs, a1, a2, a3, a4⟩ := h.ho _ _ _ hgp hs
  obtain ⟨us, bs, mb, b1, b2, b3, b4, b5, b6, b7, b8⟩ := h.ho _ _ _ hgk hk
  obtain ⟨c1, c2, c3⟩ := h.ho _ _ _ hgm hm
  have a2' : vs.length = i1.length + (i2.length + 1) := by simpa using a2
  have row : ∀ (j : Nat) u i, vs[j]? = some u → ((i1.map (AV.orow k) ++ .own m :: i2.map (AV.orow k)) : List AV)[j]? = some (.orow k i) → us[i]? = some u := by
    intro j u i hj hi
    have hrv := a3 j
    rw [List.getD_eq_getElem?_getD, hj, List.getD_eq_getElem?_getD, hi] at hrv
    simp only [Option.getD_some] at hrv
    cases hrv with
    | @orow _ _ g0 _ q1 q2 =>
      rw [hgk] at q1
      cases q1
      rw [b4] at q2
      exact q2
  have rowm : ∀ (j : Nat) u, vs[j]? = some u → ((i1.map (AV.orow k) ++ .own m :: i2.map (AV.orow k)) : List AV)[j]? = some (.own m) → u = gm.v := by
    intro j u hj hi
    have hrv := a3 j
    rw [List.getD_eq_getElem?_getD, hj, List.getD_eq_getElem?_getD, hi] at hrv
    simp only [Option.getD_some] at hrv
    cases hrv with
    | own q1 =>
      rw [hgm] at q1
      cases q1
      rfl
  have at1 : ∀ j, j < i1.length → ((i1.map (AV.orow k) ++ .own m :: i2.map (AV.orow k)) : List AV)[j]? = some (.orow k (i1.getD j 0)) := fun j hj => by
    rw [List.getElem?_append_left (by simpa using hj), List.getElem?_map, List.getElem?_eq_getElem hj, List.getD_eq_getElem?_getD, List.getElem?_eq_getElem hj]; rfl
  have at2 : ((i1.map (AV.orow k) ++ .own m :: i2.map (AV.orow k)) : List AV)[i1.length]? = some (.own m) := by
    rw [List.getElem?_append_right (by simp)]; simp
  have at3 : ∀ j, j < i2.length → ((i1.map (AV.orow k) ++ .own m :: i2.map (AV.orow k)) : List AV)[i1.length + 1 + j]? = some (.orow k (i2.getD j 0)) := fun j hj => by
    rw [List.getElem?_append_right (by simp; omega)]
    simp only [List.length_map]
    rw [show i1.length + 1 + j - i1.length = j + 1 by omega, List.getElem?_cons_succ, List.getElem?_map, List.getElem?_eq_getElem hj, List.getD_eq_getElem?_getD, List.getElem?_eq_getElem hj]; rfl
  have hidx : ∀ i ∈ i1 ++ i2, i < bs.length := by
    intro i hi
    rcases List.mem_append.1 hi with hi | hi
    · obtain ⟨j, hj⟩ := List.getElem?_of_mem hi
      have hjl := (List.getElem?_eq_some_iff.1 hj).1
      have := row j _ _ (List.getElem?_eq_getElem (by omega)) (at1 j hjl)
      rw [List.getD_eq_getElem?_getD, hj] at this
      have := (List.getElem?_eq_some_iff.1 this).1
      simp only [Option.getD_some] at this
      omega
    · obtain ⟨j, hj⟩ := List.getElem?_of_mem hi
      have hjl := (List.getElem?_eq_some_iff.1 hj).1
      have := row (i1.length + 1 + j) _ _ (List.getElem?_eq_getElem (by omega)) (at3 j hjl)
      rw [List.getD_eq_getElem?_getD, hj] at this
      have := (List.getElem?_eq_some_iff.1 this).1
      simp only [Option.getD_some] at this
      omega
  let f1 : List (List Nat) := i1.map fun i => bs.getD i []
  let f2 : List (List Nat) := i2.map fun i => bs.getD i []
  let cs : List (List Nat) := f1 ++ gm.bl :: f2
  let g' : Gh := ⟨gp.v, gp.b, gp.bl ++ cs.flatten, vs⟩
  have hsub : ∀ (l : List Nat), (∀ i ∈ l, i < bs.length) → ∀ b, b ∈ (l.map fun i => bs.getD i []).flatten → b ∈ bs.flatten := by
    intro l hl b hb
    obtain ⟨r, hr, hbl⟩ := List.mem_flatten.1 hb
    obtain ⟨i, hi, rfl⟩ := List.mem_map.1 hr
    have hil := hl i hi
    rw [List.getD_eq_getElem?_getD, List.getElem?_eq_getElem hil] at hbl
    exact List.mem_flatten.2 ⟨_, List.getElem_mem hil, hbl⟩
  have h1 : ∀ b, b ∈ f1.flatten → b ∈ gk.bl := fun b hb => by rw [b7]; exact List.mem_append.2 (.inr (hsub i1 (fun i hi => hidx i (List.mem_append.2 (.inl hi))) b hb))
  have h2 : ∀ b, b ∈ f2.flatten → b ∈ gk.bl := fun b hb => by rw [b7]; exact List.mem_append.2 (.inr (hsub i2 (fun i hi => hidx i (List.mem_append.2 (.inr hi))) b hb))
  have ecs : cs.flatten = f1.flatten ++ (gm.bl ++ f2.flatten) := by simp [cs]
  have hcs : ∀ b, b ∈ cs.flatten → b ∈ gk.bl ∨ b ∈ gm.bl := fun b hb => by
    rw [ecs] at hb
    rcases List.mem_append.1 hb with hb | hb
    · exact .inl (h1 b hb)
    · rcases List.mem_append.1 hb with hb | hb
      · exact .inr hb
      · exact .inl (h2 b hb)
  have dkm : ∀ b, b ∈ gk.bl → b ∉ gm.bl := fun b hb => h.hd k m gk gm _ _ hkm hgk hgm hk hm (by simp) (by simp) b hb
  have dpk : ∀ b, b ∈ gp.bl → b ∉ gk.bl := fun b hb => h.hd p k gp gk _ _ hne hgp hgk hs hk (by simp) (by simp) b hb
  have dpm : ∀ b, b ∈ gp.bl → b ∉ gm.bl := fun b hb => h.hd p m gp gm _ _ hnm hgp hgm hs hm (by simp) (by simp) b hb
  have hgl : p < gs.length := by rw [h.hl]; exact hpo
  have sv : SameV p gs (gs.set p g') := by
    refine ⟨fun j z hj hz => ?_, fun z hz => ⟨g', by simp [hgl], ?_, ?_⟩⟩
    · rw [List.getElem?_set, if_neg (fun e => hj e.symm)]; exact hz
    · rw [hgp] at hz; cases hz; rfl
    · rw [hgp] at hz; cases hz; rfl
  have hnd12 := List.nodup_append.1 hnd
  have nf : (f1.flatten ++ f2.flatten).Nodup := by
    have : ((i1 ++ i2).map fun i => bs.getD i []).flatten.Nodup := nodup_sel (by rw [b7] at b8; exact (List.nodup_append.1 b8).2.1) hnd hidx
    rw [List.map_append, List.flatten_append] at this
    exact this
  have nf' := List.nodup_append.1 nf
  refine ⟨gs.set p g', h.absorb2 hgp hs trivial hgk hk trivial hne hgm hm trivial hnm g' _ (AV.noRow p) rfl (fun _ _ _ => rfl) (Nat.le_refl _) ?_ (fun kp hv => hv.noRow kp sv) ?_⟩
  · intro b hb
    rcases List.mem_append.1 hb with hb | hb
    · exact ⟨.inl hb, (h.hn _ _ _ hgp hs (by simp) b hb).2⟩
    · rcases hcs b hb with h3 | h3
      · exact ⟨.inr (.inl h3), (h.hn _ _ _ hgk hk (by simp) b h3).2⟩
      · exact ⟨.inr (.inr (.inl h3)), (h.hn _ _ _ hgm hm (by simp) b h3).2⟩
  · intro kp
    refine ⟨vs, cs, gp.bl, a1, by simp [a2'], by simp [cs, f1, f2], rfl, fun j u hj => ?_, a4, rfl, ?_⟩
    · have hjl := (List.getElem?_eq_some_iff.1 hj).1
      rcases Nat.lt_trichotomy j i1.length with hlt | heq | hgt
      · have q := row j u _ hj (at1 j hlt)
        have g1 : (i1.map (fun i => xss.getD i []) ++ ys :: i2.map fun i => xss.getD i []).getD j [] = xss.getD (i1.getD j 0) [] := by
          rw [List.getD_eq_getElem?_getD, List.getElem?_append_left (by simpa using hlt), List.getElem?_map, List.getElem?_eq_getElem hlt, List.getD_eq_getElem?_getD (l := i1), List.getElem?_eq_getElem hlt]; rfl
        have g2 : cs.getD j [] = bs.getD (i1.getD j 0) [] := by
          show (f1 ++ gm.bl :: f2).getD j [] = _
          rw [List.getD_eq_getElem?_getD, List.getElem?_append_left (by simpa [f1] using hlt), List.getElem?_map, List.getElem?_eq_getElem hlt, List.getD_eq_getElem?_getD (l := i1), List.getElem?_eq_getElem hlt]; rfl
        rw [g1, g2]
        exact b5 _ u q
      · subst heq
        have q := rowm _ u hj at2
        subst q
        have g1 : (i1.map (fun i => xss.getD i []) ++ ys :: i2.map fun i => xss.getD i []).getD i1.length [] = ys := by
          rw [List.getD_eq_getElem?_getD, List.getElem?_append_right (by simp)]; simp
        have g2 : cs.getD i1.length [] = gm.bl := by
          show (f1 ++ gm.bl :: f2).getD i1.length [] = _
          rw [List.getD_eq_getElem?_getD, List.getElem?_append_right (by simp [f1])]; simp [f1]
        rw [g1, g2]
        exact ⟨c1, c2, c3.list⟩
      · obtain ⟨t, rfl⟩ : ∃ t, j = i1.length + 1 + t := ⟨j - (i1.length + 1), by omega⟩
        have htl : t < i2.length := by omega
        have q := row _ u _ hj (at3 t htl)
        have g1 : (i1.map (fun i => xss.getD i []) ++ ys :: i2.map fun i => xss.getD i []).getD (i1.length + 1 + t) [] = xss.getD (i2.getD t 0) [] := by
          rw [List.getD_eq_getElem?_getD, List.getElem?_append_right (by simp; omega)]
          simp only [List.length_map]
          rw [show i1.length + 1 + t - i1.length = t + 1 by omega, List.getElem?_cons_succ, List.getElem?_map, List.getElem?_eq_getElem htl, List.getD_eq_getElem?_getD (l := i2), List.getElem?_eq_getElem htl]; rfl
        have g2 : cs.getD (i1.length + 1 + t) [] = bs.getD (i2.getD t 0) [] := by
          show (f1 ++ gm.bl :: f2).getD (i1.length + 1 + t) [] = _
          rw [List.getD_eq_getElem?_getD, List.getElem?_append_right (by simp [f1]; omega)]
          simp only [f1, f2, List.length_map]
          rw [show i1.length + 1 + t - i1.length = t + 1 by omega, List.getElem?_cons_succ, List.getElem?_map, List.getElem?_eq_getElem htl, List.getD_eq_getElem?_getD (l := i2), List.getElem?_eq_getElem htl]; rfl
        rw [g1, g2]
        exact b5 _ u q
    · show (gp.bl ++ cs.flatten).Nodup
      rw [ecs, List.nodup_append]
      refine ⟨a4.nodup, nodup_append3 nf'.1 c3.nodup nf'.2.1 (fun x hx hx2 => dkm x (h1 x hx) hx2) (fun x hx hx2 => nf'.2.2 x hx x hx2 rfl) (fun x hx hx2 => dkm x (h2 x hx2) hx), ?_⟩
      intro a ha b hb e
      subst e
      rw [← ecs] at hb
      rcases hcs a hb with h3 | h3
      · exact dpk a ha h3
      · exact dpm a ha h3

/-- A state may be seen as another one. -/
def Turns (env : Env) (os : List AO) (env' : Env) (os' : List AO) : Prop := ∀ base w gs tm, Rel base w gs env os tm → ∃ gs', Rel base w gs' env' os' tm
theorem Turns.refl {env : Env} {os : List AO} : Turns env os env os := fun _ _ gs _ h => ⟨gs, h⟩
theorem Turns.gather {env : Env} {os : List AO} {p k m : Nat} {e e2 e3 e4 : TypeId} {xss : List (List Int)} {ys : List Int} {i1 i2 : List Nat}
    (hs : os[p]? = some (.slr e (i1.map (AV.orow k) ++ .own m :: i2.map (AV.orow k)))) (hk : os[k]? = some (.sls e3 e2 xss)) (hm : os[m]? = some (.sli e4 ys)) (he : e4 = e2) (hnd : (i1 ++ i2).Nodup) :
    Turns env os (env.mp (AV.noRow p)) ((((os.map (AO.via (AV.noRow p) p)).set p (.sls e e2 (i1.map (fun i => xss.getD i []) ++ ys :: i2.map fun i => xss.getD i []))).set k .dead).set m .dead) := fun _ _ _ _ h => h.gather hs hk hm he hnd
theorem Turns.merge {env : Env} {os : List AO} {p k : Nat} {e e2 e3 : TypeId} {xss : List (List Int)} {idx : List Nat} (hs : os[p]? = some (.slr e (idx.map (AV.orow k)))) (hk : os[k]? = some (.sls e3 e2 xss)) (hnd : idx.Nodup) :
    Turns env os (env.mp (AV.noRow p)) (((os.map (AO.via (AV.noRow p) p)).set p (.sls e e2 (idx.map fun i => xss.getD i []))).set k .dead) := fun _ _ _ _ h => h.merge hs hk hnd
end Go.Proofs.Ytpllbdjobmgikaa
