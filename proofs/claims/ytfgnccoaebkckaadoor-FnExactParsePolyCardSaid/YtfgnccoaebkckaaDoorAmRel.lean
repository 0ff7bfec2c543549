/-
  The relation between a world and an abstract state, and how it is handed on: a new object, a store, a value that turns, what is forgotten. No condition.
-/
import Derived.Test.YtfgnccoaebkckaaDoorAmCore
namespace Go.Proofs.YtfgnccoaebkckaaDoor
open Go Go.RowKit

theorem getD_set (l : List AV) (d : Nat) (r : AV) (i : Nat) : (l.set d r).getD i .any = if i = d ∧ d < l.length then r else l.getD i .any := by
  simp only [List.getD_eq_getElem?_getD, List.getElem?_set]
  by_cases h : d = i
  · subst h
    by_cases h2 : d < l.length
    · simp [h2]
    · simp [h2]
  · have h' : ¬ i = d := fun e => h e.symm
    simp [h, h']

theorem getD_setIfInBounds (tm : Array Value) (d : Nat) (v : Value) (i : Nat) : (tm.setIfInBounds d v).getD i undef = if i = d ∧ d < tm.size then v else tm.getD i undef := by
  simp only [Array.getD_eq_getD_getElem?, Array.getElem?_setIfInBounds]
  by_cases h : d = i
  · subst h
    by_cases h2 : d < tm.size
    · simp [h2]
    · simp [h2]
  · have h' : ¬ i = d := fun e => h e.symm
    simp [h, h']

theorem ownsRow_of_block {w w' : World} {base : Nat} {e : TypeId} {size : Nat} {v : Value} {n : Nat} {xs : List Value} (h : w.ownsRow base e size v n xs)
    (hb : ∀ k, v.ownBlock = some k → w'.heap[k]? = w.heap[k]?) : w'.ownsRow base e size v n xs := by
  obtain ⟨h1, h2⟩ := h
  refine ⟨h1, ?_⟩
  rcases h2 with h2 | ⟨g, cap, cur, hv, hb1, hh, r⟩
  · exact .inl h2
  · exact .inr ⟨g, cap, cur, hv, hb1, by rw [hb g (by rw [hv]; rfl)]; exact hh, r⟩

theorem GB.mem {g : Gh} (h : GB g) {k : Nat} (hk : g.v.ownBlock = some k) : k ∈ g.bl := by
  rcases h with ⟨h1, _⟩ | ⟨h1, h2⟩
  · rw [h1] at hk; cases hk
  · rw [h1] at hk; cases hk; rw [h2]; simp

theorem RO.mono {base : Nat} {w w' : World} {ok ok' : Nat → Prop} {gs gs' : List Gh} {g : Gh} {o : AO} (k : Keeps ok ok' w w')
    (hg : ∀ (h : Nat) g, gs[h]? = some g → gs'[h]? = some g) (hbl : o ≠ .dead → ∀ b, b ∈ g.bl → w'.heap[b]? = w.heap[b]?) (h : RO base w ok gs g o) : RO base w' ok' gs' g o := by
  cases o with
  | dead => trivial
  | sli e xs =>
    obtain ⟨h1, h2, h3⟩ := h
    exact ⟨ownsRow_of_block h1 fun b hb => hbl (by simp) b (h3.mem hb), h2, h3⟩
  | slr e avs =>
    obtain ⟨vs, h1, h2, h3, h4⟩ := h
    exact ⟨vs, ownsRow_of_block h1 fun b hb => hbl (by simp) b (h4.mem hb), h2, fun i => (h3 i).mono k hg, h4⟩
  | sls e e2 xss =>
    obtain ⟨vs, bs, mb, h1, h2, h3, h4, h5, h6, h7, h8⟩ := h
    refine ⟨vs, bs, mb, ownsRow_of_block h1 fun b hb => hbl (by simp) b ?_, h2, h3, h4, fun i u hu => ?_, h6, h7, h8⟩
    · rw [h7]
      rcases h6 with ⟨h6, _⟩ | ⟨h6, h6'⟩
      · rw [h6] at hb; cases hb
      · rw [h6] at hb; cases hb; simp [h6']
    · obtain ⟨r1, r2, r3⟩ := h5 i u hu
      refine ⟨ownsRow_of_block r1 fun b hb => hbl (by simp) b ?_, r2, r3⟩
      rw [h7]
      refine List.mem_append.2 (.inr (List.mem_flatten.2 ⟨bs.getD i [], ?_, by rw [← r3, hb]; simp⟩))
      have hi : i < bs.length := by
        have := (List.getElem?_eq_some_iff.1 hu).1
        omega
      rw [List.getD_eq_getElem?_getD, List.getElem?_eq_getElem hi]
      simp
  | bx T avs =>
    obtain ⟨cs, h1, h2, h3, h4, h5, h6, h7⟩ := h
    exact ⟨cs, by rw [hbl (by simp) g.b (by simp [h3])]; exact h1, h2, h3, h4, h5, h6, fun i => (h7 i).mono k hg⟩
  | ob q => exact q.up (fun b hb => hbl (by simp) b hb) h
  | keep n K =>
    obtain ⟨h1, h2, h3⟩ := h
    exact ⟨fun b hb => by rw [hbl (by simp) b hb]; exact h1 b hb, h2, fun i x hx => hg i x (h3 i x hx)⟩

section
variable {base : Nat} {w w' : World} {gs : List Gh} {env : Env} {os : List AO} {tm : Array Value}

theorem Rel.below (h : Rel base w gs env os tm) (b : Below w.heap.size w w') : Rel base w' gs env os tm where
  hb := Nat.le_trans h.hb b.size
  hl := h.hl
  hs := h.hs
  he i := (h.he i).mono (Keeps.below b) (fun _ _ e => e)
  ho k g o hg ho := (h.ho k g o hg ho).mono (Keeps.below b) (fun _ _ e => e) fun hnd c hc => b.block c (h.hn k g o hg ho hnd c hc).2
  hd := h.hd
  hn k g o hg ho hnd c hc := ⟨(h.hn k g o hg ho hnd c hc).1, Nat.lt_of_lt_of_le (h.hn k g o hg ho hnd c hc).2 b.size⟩

theorem Rel.put (h : Rel base w gs env os tm) {v : Value} {r : AV} (hv : RV w (okOf gs os) gs v r) (d : Nat) : Rel base w gs (env.up d r) os (tm.setIfInBounds d v) where
  hb := h.hb
  hl := h.hl
  hs := by simpa [Env.up] using h.hs
  he i := by
    rw [Env.lk_up, getD_setIfInBounds]
    by_cases h1 : i = d
    · subst h1
      by_cases h2 : i < env.n
      · have h3 : i < tm.size := Nat.lt_of_lt_of_le h2 h.hs
        simpa [h2, h3] using hv
      · have h4 : env.lk i = .any := by
          have h3 : Nat.blt i env.n = false := by rw [Bool.eq_false_iff]; intro h4; rw [Nat.blt_eq] at h4; exact h2 h4
          simp [Env.lk, Env.fd, h3]
        simp only [h2, and_false, if_false, h4]
        exact .any _
    · simpa [h1] using h.he i
  ho := h.ho
  hd := h.hd
  hn := h.hn

theorem append_one {α : Type} {l : List α} {x y : α} {k : Nat} (h : (l ++ [x])[k]? = some y) : (k < l.length ∧ l[k]? = some y) ∨ (k = l.length ∧ y = x) := by
  rw [List.getElem?_append] at h
  split at h
  · exact .inl ⟨‹_›, h⟩
  · rename_i hk
    have : k - l.length = 0 := by
      rcases Nat.lt_or_ge 0 (k - l.length) with h0 | h0
      · rw [List.getElem?_eq_none (by simp; omega)] at h; cases h
      · omega
    rw [this] at h
    simp at h
    exact .inr ⟨by omega, h.symm⟩

theorem keeps_new {g : Gh} {o : AO} (hl : gs.length = os.length) (hbel : Below w.heap.size w w') (hno : o ≠ .dead → ∀ b, b ∈ g.bl → w.heap.size ≤ b ∧ b < w'.heap.size) :
    Keeps (okOf gs os) (okOf (gs ++ [g]) (os ++ [o])) w w' := by
  intro b hb hlt
  refine ⟨?_, hbel.block b hlt⟩
  intro k g' o' hg' ho' hnd hmem
  rcases append_one hg' with ⟨h1, h2⟩ | ⟨h1, rfl⟩
  · rcases append_one ho' with ⟨h3, h4⟩ | ⟨h3, rfl⟩
    · exact hb k g' o' h2 h4 hnd hmem
    · omega
  · rcases append_one ho' with ⟨h3, h4⟩ | ⟨h3, rfl⟩
    · omega
    · have := (hno hnd.ne b hmem).1; omega

/-- A new object stands behind a new handle. -/
theorem Rel.new (h : Rel base w gs env os tm) (hbel : Below w.heap.size w w') (o : AO) (g : Gh) (hno : o ≠ .dead → ∀ b, b ∈ g.bl → w.heap.size ≤ b ∧ b < w'.heap.size)
    (hro : RO base w' (okOf (gs ++ [g]) (os ++ [o])) (gs ++ [g]) g o) : Rel base w' (gs ++ [g]) env (os ++ [o]) tm := by
  have k := keeps_new (o := o) h.hl hbel hno
  have hgs : ∀ (i : Nat) g', gs[i]? = some g' → (gs ++ [g])[i]? = some g' := fun i g' e => by
    rw [List.getElem?_append_left (List.getElem?_eq_some_iff.1 e).1]; exact e
  refine ⟨Nat.le_trans h.hb hbel.size, by simp [h.hl], h.hs, fun i => (h.he i).mono k hgs, ?_, ?_, ?_⟩
  · intro i g' o' hg' ho'
    rcases append_one hg' with ⟨h1, h2⟩ | ⟨h1, rfl⟩
    · rcases append_one ho' with ⟨h3, h4⟩ | ⟨h3, rfl⟩
      · exact (h.ho i g' o' h2 h4).mono k hgs fun hnd c hc => hbel.block c (h.hn i g' o' h2 h4 hnd c hc).2
      · have := h.hl; omega
    · rcases append_one ho' with ⟨h3, h4⟩ | ⟨h3, rfl⟩
      · have := h.hl; omega
      · exact hro
  · intro i j g1 g2 o1 o2 hij hg1 hg2 ho1 ho2 hn1 hn2 b hb1 hb2
    have hl := h.hl
    rcases append_one hg1 with ⟨a1, a2⟩ | ⟨a1, rfl⟩
    · rcases append_one ho1 with ⟨a3, a4⟩ | ⟨a3, rfl⟩
      · rcases append_one hg2 with ⟨b1, b2⟩ | ⟨b1, rfl⟩
        · rcases append_one ho2 with ⟨b3, b4⟩ | ⟨b3, rfl⟩
          · exact h.hd i j g1 g2 o1 o2 hij a2 b2 a4 b4 hn1 hn2 b hb1 hb2
          · omega
        · rcases append_one ho2 with ⟨b3, b4⟩ | ⟨b3, rfl⟩
          · omega
          · have := (hno hn2 b hb2).1
            have := (h.hn i g1 o1 a2 a4 hn1 b hb1).2
            omega
      · omega
    · rcases append_one ho1 with ⟨a3, a4⟩ | ⟨a3, rfl⟩
      · omega
      · rcases append_one hg2 with ⟨b1, b2⟩ | ⟨b1, rfl⟩
        · rcases append_one ho2 with ⟨b3, b4⟩ | ⟨b3, rfl⟩
          · have := (hno hn1 b hb1).1
            have := (h.hn j g2 o2 b2 b4 hn2 b hb2).2
            omega
          · omega
        · omega
  · intro i g' o' hg' ho' hnd b hb
    have hl := h.hl
    rcases append_one hg' with ⟨h1, h2⟩ | ⟨h1, rfl⟩
    · rcases append_one ho' with ⟨h3, h4⟩ | ⟨h3, rfl⟩
      · have := h.hn i g' o' h2 h4 hnd b hb
        exact ⟨this.1, Nat.lt_of_lt_of_le this.2 hbel.size⟩
      · omega
    · rcases append_one ho' with ⟨h3, h4⟩ | ⟨h3, rfl⟩
      · omega
      · have := hno hnd b hb
        exact ⟨Nat.le_trans h.hb this.1, this.2⟩

def AO.kill (h : Nat) : AO → AO
  | .bx T avs => .bx T (avs.map (AV.kill h))
  | .slr e avs => .slr e (avs.map (AV.kill h))
  | .keep n K => if h < n then .keep 0 ⟨K.snap, []⟩ else .keep n K
  | o => o

theorem AO.kill_dead {h : Nat} {o : AO} : o.kill h = .dead ↔ o = .dead := by cases o <;> simp [AO.kill]; split <;> simp
theorem AO.kill_live {h : Nat} {o : AO} : (o.kill h).live ↔ o.live := by
  cases o with
  | keep n K => simp only [AO.kill]; split <;> exact Iff.rfl
  | _ => exact Iff.rfl

theorem getD_map_kill (h : Nat) (l : List AV) (i : Nat) : (l.map (AV.kill h)).getD i .any = (l.getD i .any).kill h := by
  simp only [List.getD_eq_getElem?_getD, List.getElem?_map]
  cases l[i]? <;> rfl

/-- Object 'k' turns: its value may be another one, its blocks may be new. -/
theorem Rel.turn (h : Rel base w gs env os tm) {k : Nat} {g : Gh} {o : AO} (hg : gs[k]? = some g) (ho : os[k]? = some o) (hlv : o.live) (g' : Gh) (o' : AO)
    (hw : ∀ b, b < w.heap.size → b ∉ g.bl → w'.heap[b]? = w.heap[b]?) (hsz : w.heap.size ≤ w'.heap.size)
    (hbl : ∀ b, b ∈ g'.bl → (b ∈ g.bl ∨ w.heap.size ≤ b) ∧ b < w'.heap.size) (hrows : ∀ (i : Nat) v, g.rows[i]? = some v → g'.rows[i]? = some v)
    (hro : Keeps (okOf gs os) (okOf (gs.set k g') ((os.map (AO.kill k)).set k o')) w w' → Turned k gs (gs.set k g') →
      RO base w' (okOf (gs.set k g') ((os.map (AO.kill k)).set k o')) (gs.set k g') g' o') :
    Rel base w' (gs.set k g') (env.mp (AV.kill k)) ((os.map (AO.kill k)).set k o') tm := by
  have hnd := hlv.ne
  have hkg : k < gs.length := (List.getElem?_eq_some_iff.1 hg).1
  have hko : k < os.length := (List.getElem?_eq_some_iff.1 ho).1
  have gset : ∀ {i : Nat} {x : Gh}, (gs.set k g')[i]? = some x → (i = k ∧ x = g') ∨ (i ≠ k ∧ gs[i]? = some x) := by
    intro i x e
    rw [List.getElem?_set] at e
    split at e
    · subst_vars; simp at e; exact .inl ⟨rfl, e.symm⟩
    · exact .inr ⟨fun e' => by simp_all, e⟩
  have oset : ∀ {i : Nat} {x : AO}, ((os.map (AO.kill k)).set k o')[i]? = some x → (i = k ∧ x = o') ∨ (i ≠ k ∧ ∃ y, os[i]? = some y ∧ x = y.kill k) := by
    intro i x e
    rw [List.getElem?_set] at e
    split at e
    · subst_vars; simp [hko] at e; exact .inl ⟨rfl, e.symm⟩
    · refine .inr ⟨fun e' => by simp_all, ?_⟩
      rw [List.getElem?_map] at e
      cases hy : os[i]? with
      | none => simp [hy] at e
      | some y => simp [hy] at e; exact ⟨y, rfl, e.symm⟩
  have kp : Keeps (okOf gs os) (okOf (gs.set k g') ((os.map (AO.kill k)).set k o')) w w' := by
    intro b hb hlt
    refine ⟨?_, hw b hlt (hb k g o hg ho hlv)⟩
    intro i x y hx hy hny hmem
    rcases gset hx with ⟨rfl, rfl⟩ | ⟨hi, hx'⟩
    · rcases (hbl b hmem).1 with h1 | h1
      · exact hb i g o hg ho hlv h1
      · omega
    · rcases oset hy with ⟨rfl, rfl⟩ | ⟨_, z, hz, rfl⟩
      · exact hi rfl
      · exact hb i x z hx' hz (AO.kill_live.1 hny) hmem
  have tn : Turned k gs (gs.set k g') := by
    refine ⟨fun i x hi hx => ?_, fun x hx => ⟨g', by simp [hkg], fun i v hv => ?_⟩⟩
    · rw [List.getElem?_set, if_neg (fun e => hi e.symm)]; exact hx
    · rw [hg] at hx; cases hx; exact hrows i v hv
  refine ⟨Nat.le_trans h.hb hsz, by simp [h.hl], h.hs, fun i => by rw [Env.lk_mp _ rfl]; exact (h.he i).kill kp tn, ?_, ?_, ?_⟩
  · intro i x y hx hy
    rcases gset hx with ⟨rfl, rfl⟩ | ⟨hi, hx'⟩
    · rcases oset hy with ⟨_, rfl⟩ | ⟨hi, _⟩
      · exact hro kp tn
      · exact absurd rfl hi
    · rcases oset hy with ⟨rfl, rfl⟩ | ⟨_, z, hz, rfl⟩
      · exact absurd rfl hi
      · have hz' := h.ho i x z hx' hz
        have same : z ≠ .dead → ∀ b, b ∈ x.bl → w'.heap[b]? = w.heap[b]? := fun hn b hb =>
          hw b (h.hn i x z hx' hz hn b hb).2 (h.hd i k x g z o hi hx' hg hz ho hn hnd b hb)
        cases z with
        | ob q => exact q.up (fun b hb => same (by simp) b hb) hz'
        | bx T avs =>
          obtain ⟨cs, h1, h2, h3, h4, h5, h6, h7⟩ := hz'
          exact ⟨cs, by rw [same (by simp) x.b (by simp [h3])]; exact h1, h2, h3, h4, by simpa using h5, h6, fun j => by rw [getD_map_kill]; exact (h7 j).kill kp tn⟩
        | keep n K =>
          obtain ⟨h1, h2, h3⟩ := hz'
          have hs : ∀ b, b ∈ x.bl → w'.heap[b]? = K.snap b := fun b hb => by rw [same (by simp) b hb]; exact h1 b hb
          simp only [AO.kill]
          split
          · exact ⟨hs, rfl, fun i x hx => by simp at hx⟩
          · refine ⟨hs, h2, fun i y hy => tn.other i y (fun e => ?_) (h3 i y hy)⟩
            have := (List.getElem?_eq_some_iff.1 hy).1
            omega
        | dead => trivial
        | sli e xs =>
          obtain ⟨h1, h2, h3⟩ := hz'
          exact ⟨ownsRow_of_block h1 fun b hb => same (by simp) b (h3.mem hb), h2, h3⟩
        | slr e avs =>
          obtain ⟨vs, h1, h2, h3, h4⟩ := hz'
          exact ⟨vs, ownsRow_of_block h1 fun b hb => same (by simp) b (h4.mem hb), by simpa using h2, fun j => by rw [getD_map_kill]; exact (h3 j).kill kp tn, h4⟩
        | sls e e2 xss =>
          obtain ⟨vs, bs, mb, h1, h2, h3, h4, h5, h6, h7, h8⟩ := hz'
          refine ⟨vs, bs, mb, ownsRow_of_block h1 fun b hb => same (by simp) b ?_, h2, h3, h4, fun i u hu => ?_, h6, h7, h8⟩
          · rw [h7]
            rcases h6 with ⟨h6, _⟩ | ⟨h6, h6'⟩
            · rw [h6] at hb; cases hb
            · rw [h6] at hb; cases hb; simp [h6']
          · obtain ⟨r1, r2, r3⟩ := h5 i u hu
            refine ⟨ownsRow_of_block r1 fun b hb => same (by simp) b ?_, r2, r3⟩
            rw [h7]
            refine List.mem_append.2 (.inr (List.mem_flatten.2 ⟨bs.getD i [], ?_, by rw [← r3, hb]; simp⟩))
            have hi : i < bs.length := by
              have := (List.getElem?_eq_some_iff.1 hu).1
              omega
            rw [List.getD_eq_getElem?_getD, List.getElem?_eq_getElem hi]
            simp
  · intro i j g1 g2 o1 o2 hij hg1 hg2 ho1 ho2 hn1 hn2 b hb1 hb2
    rcases gset hg1 with ⟨rfl, rfl⟩ | ⟨hi, hg1'⟩
    · rcases gset hg2 with ⟨rfl, _⟩ | ⟨hj, hg2'⟩
      · exact hij rfl
      · rcases oset ho2 with ⟨rfl, _⟩ | ⟨_, z, hz, rfl⟩
        · exact hij rfl
        · have hzn : z ≠ .dead := fun e => hn2 (AO.kill_dead.2 e)
          rcases (hbl b hb1).1 with h1 | h1
          · exact h.hd i j g g2 o z hij hg hg2' ho hz hnd hzn b h1 hb2
          · have := (h.hn j g2 z hg2' hz hzn b hb2).2; omega
    · rcases oset ho1 with ⟨rfl, _⟩ | ⟨_, z, hz, rfl⟩
      · exact absurd rfl hi
      · have hzn : z ≠ .dead := fun e => hn1 (AO.kill_dead.2 e)
        rcases gset hg2 with ⟨rfl, rfl⟩ | ⟨hj, hg2'⟩
        · rcases (hbl b hb2).1 with h1 | h1
          · exact h.hd i j g1 g z o hij hg1' hg hz ho hzn hnd b hb1 h1
          · have := (h.hn i g1 z hg1' hz hzn b hb1).2; omega
        · rcases oset ho2 with ⟨rfl, _⟩ | ⟨_, y, hy, rfl⟩
          · exact absurd rfl hj
          · exact h.hd i j g1 g2 z y hij hg1' hg2' hz hy hzn (fun e => hn2 (AO.kill_dead.2 e)) b hb1 hb2
  · intro i x y hx hy hny b hb
    rcases gset hx with ⟨rfl, rfl⟩ | ⟨hi, hx'⟩
    · have := hbl b hb
      refine ⟨?_, this.2⟩
      rcases this.1 with h1 | h1
      · exact (h.hn i g o hg ho hnd b h1).1
      · exact Nat.le_trans h.hb h1
    · rcases oset hy with ⟨rfl, rfl⟩ | ⟨_, z, hz, rfl⟩
      · exact absurd rfl hi
      · have := h.hn i x z hx' hz (fun e => hny (AO.kill_dead.2 e)) b hb
        exact ⟨this.1, Nat.lt_of_lt_of_le this.2 hsz⟩

/-- Object 'k' is written to: its value stays, its blocks too. -/
theorem Rel.upd (h : Rel base w gs env os tm) {k : Nat} {g : Gh} {o : AO} (hg : gs[k]? = some g) (ho : os[k]? = some o) (hlv : o.live) (o' : AO) (hlv' : o'.live)
    (hw : ∀ b, b < w.heap.size → b ∉ g.bl → w'.heap[b]? = w.heap[b]?) (hsz : w.heap.size ≤ w'.heap.size)
    (hro : Keeps (okOf gs os) (okOf gs os) w w' → RO base w' (okOf gs os) gs g o') : Rel base w' gs env (os.set k o') tm := by
  have hnd := hlv.ne
  have hko : k < os.length := (List.getElem?_eq_some_iff.1 ho).1
  have oset : ∀ {i : Nat} {x : AO}, (os.set k o')[i]? = some x → (i = k ∧ x = o') ∨ (i ≠ k ∧ os[i]? = some x) := by
    intro i x e
    rw [List.getElem?_set] at e
    split at e
    · subst_vars; simp at e; exact .inl ⟨rfl, e.symm⟩
    · exact .inr ⟨fun e' => by simp_all, e⟩
  have eok : okOf gs (os.set k o') = okOf gs os := by
    funext b
    apply propext
    constructor
    · intro hb i x y hx hy hny
      by_cases hi : i = k
      · subst hi
        exact hb i x o' hx (by simp [hko]) hlv'
      · exact hb i x y hx (by rw [List.getElem?_set, if_neg (fun e => hi e.symm)]; exact hy) hny
    · intro hb i x y hx hy hny
      rcases oset hy with ⟨rfl, rfl⟩ | ⟨_, hy'⟩
      · rw [hg] at hx; cases hx
        exact hb i g o hg ho hlv
      · exact hb i x y hx hy' hny
  have kp : Keeps (okOf gs os) (okOf gs os) w w' := fun b hb hlt => ⟨hb, hw b hlt (hb k g o hg ho hlv)⟩
  refine ⟨Nat.le_trans h.hb hsz, by simp [h.hl], h.hs, fun i => by rw [eok]; exact (h.he i).mono kp (fun _ _ e => e), ?_, ?_, ?_⟩
  · intro i x y hx hy
    rw [eok]
    rcases oset hy with ⟨rfl, rfl⟩ | ⟨hi, hy'⟩
    · rw [hg] at hx; cases hx; exact hro kp
    · exact (h.ho i x y hx hy').mono kp (fun _ _ e => e) fun hn b hb => hw b (h.hn i x y hx hy' hn b hb).2 (h.hd i k x g y o hi hx hg hy' ho hn hnd b hb)
  · intro i j g1 g2 o1 o2 hij hg1 hg2 ho1 ho2 hn1 hn2
    have f : ∀ {i : Nat} {x : AO}, (os.set k o')[i]? = some x → x ≠ .dead → ∃ y, os[i]? = some y ∧ y ≠ .dead := by
      intro i x e hx
      rcases oset e with ⟨rfl, rfl⟩ | ⟨_, e'⟩
      · exact ⟨o, ho, hnd⟩
      · exact ⟨x, e', hx⟩
    obtain ⟨y1, hy1, hy1n⟩ := f ho1 hn1
    obtain ⟨y2, hy2, hy2n⟩ := f ho2 hn2
    exact h.hd i j g1 g2 y1 y2 hij hg1 hg2 hy1 hy2 hy1n hy2n
  · intro i x y hx hy hny b hb
    have : ∃ y, os[i]? = some y ∧ y ≠ .dead := by
      rcases oset hy with ⟨rfl, rfl⟩ | ⟨_, e'⟩
      · exact ⟨o, ho, hnd⟩
      · exact ⟨y, e', hny⟩
    obtain ⟨z, hz, hzn⟩ := this
    have := h.hn i x z hx hz hzn b hb
    exact ⟨this.1, Nat.lt_of_lt_of_le this.2 hsz⟩
end

/-! ### What is forgotten -/

/-- References to handles from 'n' on are forgotten. -/
def AV.lim1 (n : Nat) : AV → AV
  | .own k => if k < n then .own k else .any
  | .optr k i => if k < n then .optr k i else .any
  | .osub k a b => if k < n then .osub k a b else .any
  | .orow k i => if k < n then .orow k i else .any
  | .orptr k i j => if k < n then .orptr k i j else .any
  | .agg _ => .any
  | .tup _ => .any
  | a => a
def AV.lim (n : Nat) : AV → AV
  | .own k => if k < n then .own k else .any
  | .optr k i => if k < n then .optr k i else .any
  | .osub k a b => if k < n then .osub k a b else .any
  | .orow k i => if k < n then .orow k i else .any
  | .orptr k i j => if k < n then .orptr k i j else .any
  | .agg l => .agg (l.map (AV.lim1 n))
  | .tup l => .tup (l.map (AV.lim1 n))
  | a => a
def AO.lim (n : Nat) : AO → AO
  | .bx T avs => .bx T (avs.map (AV.lim n))
  | .slr e avs => .slr e (avs.map (AV.lim n))
  | .keep m K => if m ≤ n then .keep m K else .keep 0 ⟨K.snap, []⟩
  | o => o

theorem getD_map_lim1 (n : Nat) (l : List AV) (i : Nat) : (l.map (AV.lim1 n)).getD i .any = (l.getD i .any).lim1 n := by
  simp only [List.getD_eq_getElem?_getD, List.getElem?_map]
  cases l[i]? <;> rfl
theorem getD_map_lim (n : Nat) (l : List AV) (i : Nat) : (l.map (AV.lim n)).getD i .any = (l.getD i .any).lim n := by
  simp only [List.getD_eq_getElem?_getD, List.getElem?_map]
  cases l[i]? <;> rfl

section
variable {w : World} {ok ok' : Nat → Prop} {gs : List Gh}
theorem getElem?_take_lt {α : Type} {l : List α} {n k : Nat} {x : α} (h : l[k]? = some x) (hk : k < n) : (l.take n)[k]? = some x := by
  rw [List.getElem?_take, if_pos hk]; exact h

theorem RV.lim1 (n : Nat) (k : Keeps ok ok' w w) {v : Value} {a : AV} (hv : RV w ok gs v a) : RV w ok' (gs.take n) v (a.lim1 n) := by
  cases hv with
  | any v => exact .any v
  | val v => exact .val v
  | ints h => exact .ints (h.mono k)
  | intss h => exact .intss (h.mono k)
  | @ro v r h => exact .ro (r.up k h)
  | iptr h h1 h2 => exact .iptr (h.mono k) h1 h2
  | iiptr h h1 h2 => exact .iiptr (h.mono k) h1 h2
  | own h1 => simp only [AV.lim1]; split <;> first | exact .any _ | exact .own (getElem?_take_lt h1 ‹_›)
  | optr h1 => simp only [AV.lim1]; split <;> first | exact .any _ | exact .optr (getElem?_take_lt h1 ‹_›)
  | osub h1 h2 h3 h4 => simp only [AV.lim1]; split <;> first | exact .any _ | exact .osub (getElem?_take_lt h1 ‹_›) h2 h3 h4
  | orow h1 h2 => simp only [AV.lim1]; split <;> first | exact .any _ | exact .orow (getElem?_take_lt h1 ‹_›) h2
  | orptr h1 h2 => simp only [AV.lim1]; split <;> first | exact .any _ | exact .orptr (getElem?_take_lt h1 ‹_›) h2
  | agg _ _ _ => exact .any _
  | tup _ _ => exact .any _

theorem RV.lim (n : Nat) (k : Keeps ok ok' w w) {v : Value} {a : AV} (hv : RV w ok gs v a) : RV w ok' (gs.take n) v (a.lim n) := by
  cases hv with
  | any v => exact .any v
  | val v => exact .val v
  | ints h => exact .ints (h.mono k)
  | intss h => exact .intss (h.mono k)
  | @ro v r h => exact .ro (r.up k h)
  | iptr h h1 h2 => exact .iptr (h.mono k) h1 h2
  | iiptr h h1 h2 => exact .iiptr (h.mono k) h1 h2
  | own h1 => simp only [AV.lim]; split <;> first | exact .any _ | exact .own (getElem?_take_lt h1 ‹_›)
  | optr h1 => simp only [AV.lim]; split <;> first | exact .any _ | exact .optr (getElem?_take_lt h1 ‹_›)
  | osub h1 h2 h3 h4 => simp only [AV.lim]; split <;> first | exact .any _ | exact .osub (getElem?_take_lt h1 ‹_›) h2 h3 h4
  | orow h1 h2 => simp only [AV.lim]; split <;> first | exact .any _ | exact .orow (getElem?_take_lt h1 ‹_›) h2
  | orptr h1 h2 => simp only [AV.lim]; split <;> first | exact .any _ | exact .orptr (getElem?_take_lt h1 ‹_›) h2
  | agg h1 h3 h2 => exact .agg (by simpa using h1) h3 fun i => by rw [getD_map_lim1]; exact (h2 i).lim1 n k
  | tup h1 h2 => exact .tup (by simpa using h1) fun i => by rw [getD_map_lim1]; exact (h2 i).lim1 n k
end

/-- The state (env, os) may be seen as (env', os'): slots and objects are forgotten. -/
def LeM (e : Env) : List (Nat × AV) → Prop
  | [] => True
  | p :: t => e.fd p.1 = some p.2 ∧ LeM e t
def LeE (e e' : Env) : Prop := e'.n = e.n ∧ LeM e e'.m
/-- What is said of 'a' gives what is said of 'b'. -/
def AO.le (a b : AO) : Prop := a = b ∨ ∃ q q' : Ob, a = .ob q ∧ b = .ob q' ∧ ∀ base w g, q.p base w g → q'.p base w g
theorem AO.le.live {a b : AO} (h : a.le b) (hb : b.live) : a.live := by
  rcases h with rfl | ⟨q, q', rfl, rfl, _⟩
  · exact hb
  · trivial
theorem AO.le.ne {a b : AO} (h : a.le b) (hb : b ≠ .dead) : a ≠ .dead := by
  rcases h with rfl | ⟨q, q', rfl, rfl, _⟩
  · exact hb
  · simp
def LeO : List AO → List AO → Prop
  | _, [] => True
  | [], _ :: _ => False
  | a :: as0, b :: bs => (b = .dead ∨ a.le b) ∧ LeO as0 bs

structure Fit (env : Env) (os : List AO) (env' : Env) (os' : List AO) : Prop where
  e : LeE env env'
  o : LeO os os'
  le : env'.mp (AV.lim os'.length) = env'
  lo : os'.map (AO.lim os'.length) = os'

theorem LeM.get {e : Env} : ∀ {m : List (Nat × AV)}, LeM e m → ∀ k a, fdm m k = some a → e.fd k = some a
  | [], _, k, a, h => by cases h
  | (d, r) :: t, h, k, a, hk => by
    obtain ⟨h1, h2⟩ := h
    simp only [fdm] at hk
    cases hb : Nat.beq d k with
    | true =>
      rw [hb] at hk
      have := Nat.eq_of_beq_eq_true hb
      subst this
      simp only [cond_true, Option.some.injEq] at hk
      subst hk
      exact h1
    | false => rw [hb] at hk; exact LeM.get h2 k a hk
theorem LeE.get {e e' : Env} (h : LeE e e') : e'.n ≤ e.n ∧ ∀ i : Nat, e'.lk i = .any ∨ e.lk i = e'.lk i := by
  refine ⟨by rw [h.1]; exact Nat.le_refl _, fun i => ?_⟩
  cases hf : e'.fd i with
  | none => left; simp [Env.lk, hf]
  | some a =>
    right
    have hf' := hf
    simp only [Env.fd] at hf
    cases hb : Nat.blt i e'.n with
    | false => rw [hb] at hf; cases hf
    | true => rw [hb] at hf; rw [Env.lk_of hf', Env.lk_of (h.2.get i a hf)]

theorem LeO.get : ∀ {a b : List AO}, LeO a b → b.length ≤ a.length ∧ ∀ (i : Nat) y, b[i]? = some y → y = .dead ∨ ∃ x, a[i]? = some x ∧ x.le y
  | _, [], _ => ⟨by simp, fun i y h => by simp at h⟩
  | [], _ :: _, h => h.elim
  | a :: as0, b :: bs, h => by
    obtain ⟨h1, h2⟩ := h
    have ih := LeO.get h2
    refine ⟨by simpa using ih.1, fun i y hy => ?_⟩
    cases i with
    | zero => simp at hy ⊢; subst hy; exact h1
    | succ i => simpa using ih.2 i y (by simpa using hy)

theorem LeO.refl : ∀ a : List AO, LeO a a
  | [] => trivial
  | _ :: as0 => ⟨.inr (.inl rfl), LeO.refl as0⟩

theorem Rel.fit {base : Nat} {w : World} {gs : List Gh} {env env' : Env} {os os' : List AO} {tm : Array Value} (h : Rel base w gs env os tm) (f : Fit env os env' os') :
    ∃ gs', Rel base w gs' env' os' tm := by
  have fe := f.e.get
  have fo := f.o.get
  have hgl : os'.length ≤ gs.length := by rw [h.hl]; exact fo.1
  have back : ∀ {i : Nat} {x : Gh} {y : AO}, (gs.take os'.length)[i]? = some x → os'[i]? = some y → gs[i]? = some x ∧ (y = .dead ∨ ∃ z, os[i]? = some z ∧ z.le y) := by
    intro i x y hx hy
    have hi := (List.getElem?_eq_some_iff.1 hy).1
    rw [List.getElem?_take, if_pos hi] at hx
    exact ⟨hx, fo.2 i y hy⟩
  have kp : Keeps (okOf gs os) (okOf (gs.take os'.length) os') w w := by
    intro b hb _
    refine ⟨fun i x y hx hy hny hmem => ?_, rfl⟩
    obtain ⟨h1, h2⟩ := back hx hy
    rcases h2 with rfl | ⟨z, h2, hle⟩
    · exact hny.elim
    · exact hb i x z h1 h2 (hle.live hny) hmem
  refine ⟨gs.take os'.length, h.hb, by simp; omega, Nat.le_trans fe.1 h.hs, fun i => ?_, ?_, ?_, ?_⟩
  · rcases fe.2 i with e | e
    · rw [e]; exact .any _
    · have := (h.he i).lim os'.length kp
      rw [e] at this
      have e2 : (env'.lk i).lim os'.length = env'.lk i := by rw [← Env.lk_mp (AV.lim os'.length) rfl, f.le]
      rwa [e2] at this
  · intro i x y hx hy
    obtain ⟨h1, h2⟩ := back hx hy
    rcases h2 with rfl | ⟨z, h2, rfl | ⟨q, q', rfl, rfl, himp⟩⟩
    · trivial
    rotate_left 1
    · exact himp _ _ _ (h.ho i x _ h1 h2)
    · have hz := h.ho i x z h1 h2
      have e2 : z.lim os'.length = z := by
        have := congrArg (·[i]?) f.lo
        simp only [List.getElem?_map, hy, Option.map_some, Option.some.injEq] at this
        exact this
      cases z with
      | dead => trivial
      | ob q => exact hz
      | sli e xs => exact hz
      | slr e avs =>
        obtain ⟨vs, h1, h2, h3, h4⟩ := hz
        refine ⟨vs, h1, h2, fun j => ?_, h4⟩
        have := (h3 j).lim os'.length kp
        have e3 : (avs.getD j .any).lim os'.length = avs.getD j .any := by
          have : avs.map (AV.lim os'.length) = avs := by simpa [AO.lim] using e2
          rw [← getD_map_lim, this]
        rwa [e3] at this
      | sls e e2 xss => exact hz
      | bx T avs =>
        obtain ⟨cs, h1, h2, h3, h4, h5, h6, h7⟩ := hz
        refine ⟨cs, h1, h2, h3, h4, h5, h6, fun j => ?_⟩
        have := (h7 j).lim os'.length kp
        have e3 : (avs.getD j .any).lim os'.length = avs.getD j .any := by
          have : avs.map (AV.lim os'.length) = avs := by simpa [AO.lim] using e2
          rw [← getD_map_lim, this]
        rwa [e3] at this
      | keep m K =>
        obtain ⟨h1, h2, h3⟩ := hz
        refine ⟨h1, h2, fun i z' hi => ?_⟩
        have hlt := (List.getElem?_eq_some_iff.1 hi).1
        have hm : m ≤ os'.length := by
          simp only [AO.lim] at e2
          split at e2
          · assumption
          · simp only [AO.keep.injEq] at e2
            omega
        exact getElem?_take_lt (h3 i z' hi) (by omega)
  · intro i j g1 g2 o1 o2 hij hg1 hg2 ho1 ho2 hn1 hn2
    obtain ⟨a1, a2⟩ := back hg1 ho1
    obtain ⟨b1, b2⟩ := back hg2 ho2
    obtain ⟨z1, c1, l1⟩ := a2.resolve_left hn1
    obtain ⟨z2, c2, l2⟩ := b2.resolve_left hn2
    exact h.hd i j g1 g2 z1 z2 hij a1 b1 c1 c2 (l1.ne hn1) (l2.ne hn2)
  · intro i x y hx hy hny
    obtain ⟨h1, h2⟩ := back hx hy
    obtain ⟨z, c, l⟩ := h2.resolve_left hny
    exact h.hn i x z h1 c (l.ne hny)

/-! ### Handles get other numbers -/
def ixOf : List Nat → Nat → Option Nat
  | [], _ => none
  | s :: t, h => cond (Nat.beq s h) (some 0) ((ixOf t h).map (· + 1))
def AV.ren1 (σ : List Nat) : AV → AV
  | .own k => match ixOf σ k with | some j => .own j | none => .any
  | .optr k i => match ixOf σ k with | some j => .optr j i | none => .any
  | .osub k a b => match ixOf σ k with | some j => .osub j a b | none => .any
  | .orow k i => match ixOf σ k with | some j => .orow j i | none => .any
  | .orptr k i n => match ixOf σ k with | some j => .orptr j i n | none => .any
  | .agg _ => .any
  | .tup _ => .any
  | a => a
def AV.ren (σ : List Nat) : AV → AV
  | .own k => match ixOf σ k with | some j => .own j | none => .any
  | .optr k i => match ixOf σ k with | some j => .optr j i | none => .any
  | .osub k a b => match ixOf σ k with | some j => .osub j a b | none => .any
  | .orow k i => match ixOf σ k with | some j => .orow j i | none => .any
  | .orptr k i n => match ixOf σ k with | some j => .orptr j i n | none => .any
  | .agg l => .agg (l.map (AV.ren1 σ))
  | .tup l => .tup (l.map (AV.ren1 σ))
  | a => a
def AO.ren (σ : List Nat) : AO → AO
  | .bx T avs => .bx T (avs.map (AV.ren σ))
  | .slr e avs => .slr e (avs.map (AV.ren σ))
  | .keep n K => if n ≤ σ.length ∧ σ.take n = List.range n then .keep n K else .keep 0 ⟨K.snap, []⟩
  | o => o
/-- The objects that σ names, in its order. -/
def selO (σ : List Nat) (os : List AO) : List AO := σ.map fun h => (os.getD h .dead).ren σ
def okSel (σ : List Nat) (n : Nat) : Prop := σ.Nodup ∧ ∀ h ∈ σ, h < n

theorem ixOf_some : ∀ {σ : List Nat} {h j : Nat}, ixOf σ h = some j → σ[j]? = some h
  | [], _, _, e => by cases e
  | s :: t, h, j, e => by
    simp only [ixOf] at e
    cases hb : Nat.beq s h with
    | true => rw [hb] at e; simp at e; subst e; simp [Nat.eq_of_beq_eq_true hb]
    | false =>
      rw [hb] at e
      simp only [cond_false, Option.map_eq_some_iff] at e
      obtain ⟨i, hi, rfl⟩ := e
      simpa using ixOf_some hi

section
variable {w : World} {ok ok' : Nat → Prop} {gs : List Gh}
theorem get_sel {σ : List Nat} (g0 : Gh) {h j : Nat} {g : Gh} (hx : ixOf σ h = some j) (hg : gs[h]? = some g) : (σ.map fun k => gs.getD k g0)[j]? = some g := by
  have := ixOf_some hx
  simp [List.getElem?_map, this, hg]
theorem RV.ren1 (σ : List Nat) (g0 : Gh) (k : Keeps ok ok' w w) {v : Value} {a : AV} (hv : RV w ok gs v a) : RV w ok' (σ.map fun k => gs.getD k g0) v (a.ren1 σ) := by
  cases hv with
  | any v => exact .any v
  | val v => exact .val v
  | ints h => exact .ints (h.mono k)
  | intss h => exact .intss (h.mono k)
  | @ro v r h => exact .ro (r.up k h)
  | iptr h h1 h2 => exact .iptr (h.mono k) h1 h2
  | iiptr h h1 h2 => exact .iiptr (h.mono k) h1 h2
  | own h1 => simp only [AV.ren1]; split <;> first | exact .any _ | exact .own (get_sel g0 ‹_› h1)
  | optr h1 => simp only [AV.ren1]; split <;> first | exact .any _ | exact .optr (get_sel g0 ‹_› h1)
  | osub h1 h2 h3 h4 => simp only [AV.ren1]; split <;> first | exact .any _ | exact .osub (get_sel g0 ‹_› h1) h2 h3 h4
  | orow h1 h2 => simp only [AV.ren1]; split <;> first | exact .any _ | exact .orow (get_sel g0 ‹_› h1) h2
  | orptr h1 h2 => simp only [AV.ren1]; split <;> first | exact .any _ | exact .orptr (get_sel g0 ‹_› h1) h2
  | agg _ _ _ => exact .any _
  | tup _ _ => exact .any _
theorem getD_map_f (f : AV → AV) (hf : f .any = .any) (l : List AV) (i : Nat) : (l.map f).getD i .any = f (l.getD i .any) := by
  simp only [List.getD_eq_getElem?_getD, List.getElem?_map]
  cases l[i]? <;> simp [hf]
theorem RV.ren (σ : List Nat) (g0 : Gh) (k : Keeps ok ok' w w) {v : Value} {a : AV} (hv : RV w ok gs v a) : RV w ok' (σ.map fun k => gs.getD k g0) v (a.ren σ) := by
  cases hv with
  | any v => exact .any v
  | val v => exact .val v
  | ints h => exact .ints (h.mono k)
  | intss h => exact .intss (h.mono k)
  | @ro v r h => exact .ro (r.up k h)
  | iptr h h1 h2 => exact .iptr (h.mono k) h1 h2
  | iiptr h h1 h2 => exact .iiptr (h.mono k) h1 h2
  | own h1 => simp only [AV.ren]; split <;> first | exact .any _ | exact .own (get_sel g0 ‹_› h1)
  | optr h1 => simp only [AV.ren]; split <;> first | exact .any _ | exact .optr (get_sel g0 ‹_› h1)
  | osub h1 h2 h3 h4 => simp only [AV.ren]; split <;> first | exact .any _ | exact .osub (get_sel g0 ‹_› h1) h2 h3 h4
  | orow h1 h2 => simp only [AV.ren]; split <;> first | exact .any _ | exact .orow (get_sel g0 ‹_› h1) h2
  | orptr h1 h2 => simp only [AV.ren]; split <;> first | exact .any _ | exact .orptr (get_sel g0 ‹_› h1) h2
  | agg h1 h3 h2 => exact .agg (by simpa using h1) h3 fun i => by rw [getD_map_f _ rfl]; exact (h2 i).ren1 σ g0 k
  | tup h1 h2 => exact .tup (by simpa using h1) fun i => by rw [getD_map_f _ rfl]; exact (h2 i).ren1 σ g0 k
end

theorem Rel.sel {base : Nat} {w : World} {gs : List Gh} {env : Env} {os : List AO} {tm : Array Value} (h : Rel base w gs env os tm) (σ : List Nat) (hσ : okSel σ os.length) :
    ∃ gs', Rel base w gs' (env.mp (AV.ren σ)) (selO σ os) tm := by
  obtain ⟨hnd, hlt⟩ := hσ
  let g0 : Gh := ⟨undef, 0, [], []⟩
  have hl := h.hl
  -- where an object of the selection comes from
  have back : ∀ {i : Nat} {x : Gh} {y : AO}, (σ.map fun k => gs.getD k g0)[i]? = some x → (selO σ os)[i]? = some y → ∃ k z, σ[i]? = some k ∧ gs[k]? = some x ∧ os[k]? = some z ∧ y = z.ren σ := by
    intro i x y hx hy
    simp only [selO, List.getElem?_map] at hx hy
    cases hk : σ[i]? with
    | none => rw [hk] at hx; cases hx
    | some k =>
      have hkl := hlt k (List.mem_of_getElem? hk)
      rw [hk] at hx hy
      have e1 : gs[k]? = some gs[k] := List.getElem?_eq_getElem (by omega)
      have e2 : os[k]? = some os[k] := List.getElem?_eq_getElem hkl
      simp [e1] at hx
      simp [e2] at hy
      exact ⟨k, os[k], rfl, by rw [e1, hx], e2, hy.symm⟩
  have live : ∀ {z : AO}, (z.ren σ).live → z.live := by
    intro z hz
    cases z with
    | keep n K => simp only [AO.ren] at hz; split at hz <;> exact hz
    | dead => exact hz
    | _ => trivial
  have dead : ∀ {z : AO}, z.ren σ ≠ .dead → z ≠ .dead := by
    intro z hz e
    subst e
    exact hz rfl
  have kp : Keeps (okOf gs os) (okOf (σ.map fun k => gs.getD k g0) (selO σ os)) w w := by
    intro b hb _
    refine ⟨fun i x y hx hy hny hmem => ?_, rfl⟩
    obtain ⟨k, z, _, h1, h2, rfl⟩ := back hx hy
    exact hb k x z h1 h2 (live hny) hmem
  refine ⟨σ.map fun k => gs.getD k g0, h.hb, by simp [selO], h.hs, fun i => by rw [Env.lk_mp _ rfl]; exact (h.he i).ren σ g0 kp, ?_, ?_, ?_⟩
  · intro i x y hx hy
    obtain ⟨k, z, hk, h1, h2, rfl⟩ := back hx hy
    have hz := h.ho k x z h1 h2
    cases z with
    | dead => trivial
    | ob q => exact hz
    | sli e xs => exact hz
    | slr e avs =>
      obtain ⟨vs, a1, a2, a3, a4⟩ := hz
      exact ⟨vs, a1, by simpa using a2, fun j => by rw [getD_map_f _ rfl]; exact (a3 j).ren σ g0 kp, a4⟩
    | sls e e2 xss => exact hz
    | bx T avs =>
      obtain ⟨cs, a1, a2, a3, a4, a5, a6, a7⟩ := hz
      exact ⟨cs, a1, a2, a3, a4, by simpa using a5, a6, fun j => by rw [getD_map_f _ rfl]; exact (a7 j).ren σ g0 kp⟩
    | keep n K =>
      obtain ⟨a1, a2, a3⟩ := hz
      simp only [AO.ren]
      split
      · rename_i hc
        refine ⟨a1, a2, fun j g hg => ?_⟩
        have hj := (List.getElem?_eq_some_iff.1 hg).1
        have hg' := a3 j g hg
        have hσj : σ[j]? = some j := by
          have e : (σ.take n)[j]? = (List.range n)[j]? := by rw [hc.2]
          rw [List.getElem?_take, if_pos (by omega)] at e
          rw [e, List.getElem?_eq_getElem (by rw [List.length_range]; omega), List.getElem_range]
        simp [List.getElem?_map, hσj, hg']
      · exact ⟨a1, rfl, fun j g hg => by simp at hg⟩
  · intro i j g1 g2 o1 o2 hij hg1 hg2 ho1 ho2 hn1 hn2
    obtain ⟨k1, z1, e1, a1, b1, rfl⟩ := back hg1 ho1
    obtain ⟨k2, z2, e2, a2, b2, rfl⟩ := back hg2 ho2
    refine h.hd k1 k2 g1 g2 z1 z2 (fun e => hij ?_) a1 a2 b1 b2 (dead hn1) (dead hn2)
    subst e
    have l1 := (List.getElem?_eq_some_iff.1 e1).1
    exact (List.getElem?_inj l1 hnd).1 (e1.trans e2.symm)
  · intro i x y hx hy hny
    obtain ⟨k, z, _, h1, h2, rfl⟩ := back hx hy
    exact h.hn k x z h1 h2 (dead hny)

/-- Handles are numbered anew, then slots and objects are forgotten. -/
def FitS (σ : List Nat) (env : Env) (os : List AO) (env' : Env) (os' : List AO) : Prop := okSel σ os.length ∧ Fit (env.mp (AV.ren σ)) (selO σ os) env' os'
theorem Rel.fits {base : Nat} {w : World} {gs : List Gh} {env env' : Env} {os os' : List AO} {tm : Array Value} {σ : List Nat} (h : Rel base w gs env os tm) (f : FitS σ env os env' os') :
    ∃ gs', Rel base w gs' env' os' tm :=
  let ⟨_, h1⟩ := h.sel σ f.1
  h1.fit f.2

end Go.Proofs.YtfgnccoaebkckaaDoor
