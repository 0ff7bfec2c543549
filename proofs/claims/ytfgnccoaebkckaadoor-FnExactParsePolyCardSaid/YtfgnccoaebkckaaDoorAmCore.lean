/-
  The abstract machine over the walk's weakest preconditions: values that are only read are plain lists, memory that the call itself made stands behind handles. No condition.
-/
import Derived.WalkKit
import Derived.WalkSpells
import Derived.WalkLawsBesides
import Derived.Deep.Quiet
import Derived.Deep.LoopGhost
import Derived.Great.BuildSlice
namespace Go.Proofs.YtfgnccoaebkckaaDoor
open Go Go.RowKit

def inI (n : Int) : Prop := -9223372036854775808 ≤ n ∧ n ≤ 9223372036854775807

/-! ### Rows of memory that are read as lists -/

/-- The slice value 'v' reads as the cells 'vs', which lie in one block of the class 'ok'. -/
def RowAt (w : World) (ok : Nat → Prop) (v : Value) (vs : List Value) : Prop :=
  ∃ a cap, v = .slice a vs.length cap ∧ vs.length ≤ cap ∧ cap ≤ maxLen ∧
    (0 < vs.length → ∃ b off, a = some ⟨b, off, none⟩ ∧ ok b ∧ ∀ i u, vs[i]? = some u → w.cell? ⟨b, off + i, none⟩ = some u)

def IntsAt (w : World) (ok : Nat → Prop) (v : Value) (xs : List Int) : Prop :=
  RowAt w ok v (xs.map (Value.int .i64)) ∧ ∀ x ∈ xs, inI x

def IntssAt (w : World) (ok : Nat → Prop) (v : Value) (xss : List (List Int)) : Prop :=
  ∃ vs : List Value, RowAt w ok v vs ∧ vs.length = xss.length ∧ ∀ (i : Nat) u, vs[i]? = some u → IntsAt w ok u (xss.getD i [])

/-- What lies in the class 'ok' in 'w' lies in the class 'ok'' in 'w'', unchanged. -/
def Keeps (ok ok' : Nat → Prop) (w w' : World) : Prop := ∀ b, ok b → b < w.heap.size → ok' b ∧ w'.heap[b]? = w.heap[b]?

theorem Keeps.refl (ok : Nat → Prop) (w : World) : Keeps ok ok w w := fun _ h _ => ⟨h, rfl⟩
theorem Keeps.below {ok : Nat → Prop} {w w' : World} (h : Below w.heap.size w w') : Keeps ok ok w w' := fun b hb hl => ⟨hb, h.block b hl⟩

theorem RowAt.mono {w w' : World} {ok ok' : Nat → Prop} {v : Value} {vs : List Value} (h : RowAt w ok v vs) (k : Keeps ok ok' w w') : RowAt w' ok' v vs := by
  obtain ⟨a, cap, hv, h1, h2, h3⟩ := h
  refine ⟨a, cap, hv, h1, h2, fun hp => ?_⟩
  obtain ⟨b, off, ha, hok, hc⟩ := h3 hp
  have hlt := World.block_lt_of_cell? w _ (hc 0 _ (List.getElem?_eq_getElem hp))
  have hk := k b hok hlt
  exact ⟨b, off, ha, hk.1, fun i u hu => (World.cell?_of_block (w := w) hk.2).trans (hc i u hu)⟩

theorem IntsAt.mono {w w' : World} {ok ok' : Nat → Prop} {v : Value} {xs : List Int} (h : IntsAt w ok v xs) (k : Keeps ok ok' w w') : IntsAt w' ok' v xs :=
  ⟨h.1.mono k, h.2⟩

theorem IntssAt.mono {w w' : World} {ok ok' : Nat → Prop} {v : Value} {xss : List (List Int)} (h : IntssAt w ok v xss) (k : Keeps ok ok' w w') : IntssAt w' ok' v xss :=
  let ⟨vs, h1, h2, h3⟩ := h
  ⟨vs, h1.mono k, h2, fun i u hu => (h3 i u hu).mono k⟩

/-- A way to read memory that is not written: a predicate that what is kept keeps. -/
structure Ro where
  p : World → (Nat → Prop) → Value → Prop
  up : ∀ {w w' : World} {ok ok' : Nat → Prop} {v : Value}, Keeps ok ok' w w' → p w ok v → p w' ok' v

/-! ### Abstract values, handles, objects -/

inductive AV where
  | any
  | val (v : Value)
  | ints (xs : List Int)
  | intss (xss : List (List Int))
  | iptr (xs : List Int) (i : Int)
  | iiptr (xss : List (List Int)) (i : Int)
  | own (h : Nat)
  | optr (h : Nat) (i : Nat)
  | osub (h : Nat) (off : Nat) (len : Nat)
  | orow (h : Nat) (i : Nat)
  | orptr (h : Nat) (i : Nat) (j : Nat)
  | agg (l : List AV)
  | tup (l : List AV)
  | ro (r : Ro)

abbrev AV.i (n : Int) : AV := .val (.int .i64 n)
abbrev AV.b (b : Bool) : AV := .val (.bool b)

structure Gh where
  v : Value
  b : Nat
  bl : List Nat
  rows : List Value

/-- An object that holds no handle: what is said of it, which stays as long as its blocks do. -/
structure Ob where
  p : Nat → World → Gh → Prop
  up : ∀ {base : Nat} {w w' : World} {g : Gh}, (∀ b, b ∈ g.bl → w'.heap[b]? = w.heap[b]?) → p base w g → p base w' g
  lower : ∀ {base base' : Nat} {w : World} {g : Gh}, base' ≤ base → p base w g → p base' w g
  one : ∀ {base : Nat} {w : World} {g : Gh}, p base w g → g.v.oneCell' = true ∧ g.v.cells = #[g.v]
/-- An object of one block: how its value is made of the block's number, and what it is. -/
def ob1 (val : Nat → Value) (p : Obj → Prop) (one : ∀ b, (val b).oneCell' = true ∧ (val b).cells = #[val b]) : Ob where
  p base w g := ∃ o, w.heap[g.b]? = some o ∧ p o ∧ base ≤ g.b ∧ g.bl = [g.b] ∧ g.v = val g.b
  up hb h := by
    obtain ⟨o, h1, h2, h3, h4, h5⟩ := h
    exact ⟨o, by rw [hb _ (by simp [h4])]; exact h1, h2, h3, h4, h5⟩
  lower hb h := by
    obtain ⟨o, h1, h2, h3, h4, h5⟩ := h
    exact ⟨o, h1, h2, Nat.le_trans hb h3, h4, h5⟩
  one h := by
    obtain ⟨o, _, _, _, _, h5⟩ := h
    rw [h5]; exact one _

/-- What memory held, and what the first handles were. -/
structure Kp where
  snap : Nat → Option Obj
  gs : List Gh

inductive AO where
  | dead
  | sli (e : TypeId) (xs : List Int)
  | slr (e : TypeId) (avs : List AV)
  | sls (e e2 : TypeId) (xss : List (List Int))
  | bx (T : TypeId) (avs : List AV)
  | ob (q : Ob)
  | keep (n : Nat) (K : Kp)

def eptr (v : Value) (i : Int) : Value :=
  match v with
  | .slice (some a) _ _ => .pointer (some (a.add i.toNat))
  | _ => undef

inductive RV (w : World) (ok : Nat → Prop) (gs : List Gh) : Value → AV → Prop
  | any (v : Value) : RV w ok gs v .any
  | val (v : Value) : RV w ok gs v (.val v)
  | ints {v : Value} {xs : List Int} : IntsAt w ok v xs → RV w ok gs v (.ints xs)
  | intss {v : Value} {xss : List (List Int)} : IntssAt w ok v xss → RV w ok gs v (.intss xss)
  | iptr {v : Value} {xs : List Int} {i : Int} : IntsAt w ok v xs → 0 ≤ i → i < xs.length → RV w ok gs (eptr v i) (.iptr xs i)
  | iiptr {v : Value} {xss : List (List Int)} {i : Int} : IntssAt w ok v xss → 0 ≤ i → i < xss.length → RV w ok gs (eptr v i) (.iiptr xss i)
  | own {h : Nat} {g : Gh} : gs[h]? = some g → RV w ok gs g.v (.own h)
  | optr {h i : Nat} {g : Gh} : gs[h]? = some g → RV w ok gs (.pointer (some ⟨g.b, i, none⟩)) (.optr h i)
  | osub {h off len cap : Nat} {p : Option Addr} {g : Gh} : gs[h]? = some g → (0 < len → p = some ⟨g.b, off, none⟩) → len ≤ cap → cap ≤ maxLen → RV w ok gs (.slice p len cap) (.osub h off len)
  | orow {h i : Nat} {g : Gh} {v : Value} : gs[h]? = some g → g.rows[i]? = some v → RV w ok gs v (.orow h i)
  | orptr {h i j blk n c : Nat} {g : Gh} : gs[h]? = some g → g.rows[i]? = some (.slice (some ⟨blk, 0, none⟩) n c) → RV w ok gs (.pointer (some ⟨blk, j, none⟩)) (.orptr h i j)
  | agg {vs : List Value} {l : List AV} : vs.length = l.length → (∀ v ∈ vs, v.oneCell' = true) → (∀ i : Nat, RV w ok gs (vs.getD i undef) (l.getD i .any)) → RV w ok gs (.agg vs.toArray) (.agg l)
  | tup {vs : List Value} {l : List AV} : vs.length = l.length → (∀ i : Nat, RV w ok gs (vs.getD i undef) (l.getD i .any)) → RV w ok gs (.tuple vs.toArray) (.tup l)
  | ro {v : Value} {r : Ro} : r.p w ok v → RV w ok gs v (.ro r)

theorem RV.mono {w w' : World} {ok ok' : Nat → Prop} {gs gs' : List Gh} (k : Keeps ok ok' w w') (hg : ∀ (h : Nat) g, gs[h]? = some g → gs'[h]? = some g)
    {v : Value} {a : AV} (h : RV w ok gs v a) : RV w' ok' gs' v a := by
  induction h with
  | any v => exact .any v
  | val v => exact .val v
  | ints h => exact .ints (h.mono k)
  | intss h => exact .intss (h.mono k)
  | @ro v r h => exact .ro (r.up k h)
  | iptr h h1 h2 => exact .iptr (h.mono k) h1 h2
  | iiptr h h1 h2 => exact .iiptr (h.mono k) h1 h2
  | own h => exact .own (hg _ _ h)
  | optr h => exact .optr (hg _ _ h)
  | osub h h1 h2 h3 => exact .osub (hg _ _ h) h1 h2 h3
  | orow h h1 => exact .orow (hg _ _ h) h1
  | orptr h h1 => exact .orptr (hg _ _ h) h1
  | agg h h1 _ ih => exact .agg h h1 ih
  | tup h _ ih => exact .tup h ih

/-- The value of handle 'h' turns: what names it by value is forgotten. -/
def AV.kill1 (h : Nat) : AV → AV
  | .own k => if k = h then .any else .own k
  | .optr k i => if k = h then .any else .optr k i
  | .osub k a b => if k = h then .any else .osub k a b
  | .agg _ => .any
  | .tup _ => .any
  | a => a
def AV.kill (h : Nat) : AV → AV
  | .own k => if k = h then .any else .own k
  | .optr k i => if k = h then .any else .optr k i
  | .osub k a b => if k = h then .any else .osub k a b
  | .agg l => .agg (l.map (AV.kill1 h))
  | .tup l => .tup (l.map (AV.kill1 h))
  | a => a

/-- All of handle 'h' is forgotten. -/
def AV.drop1 (h : Nat) : AV → AV
  | .own k => if k = h then .any else .own k
  | .optr k i => if k = h then .any else .optr k i
  | .osub k a b => if k = h then .any else .osub k a b
  | .orow k i => if k = h then .any else .orow k i
  | .orptr k i j => if k = h then .any else .orptr k i j
  | .agg _ => .any
  | .tup _ => .any
  | a => a

section kill
variable {w w' : World} {ok ok' : Nat → Prop} {gs gs' : List Gh} {h : Nat}

/-- Ghosts other than h stay; that of h may have a new value, its rows are still there. -/
structure Turned (h : Nat) (gs gs' : List Gh) : Prop where
  other : ∀ (k : Nat) g, k ≠ h → gs[k]? = some g → gs'[k]? = some g
  rows : ∀ g, gs[h]? = some g → ∃ g', gs'[h]? = some g' ∧ ∀ (i : Nat) v, g.rows[i]? = some v → g'.rows[i]? = some v

theorem RV.kill1 (k : Keeps ok ok' w w') (t : Turned h gs gs') {v : Value} {a : AV} (hv : RV w ok gs v a) : RV w' ok' gs' v (a.kill1 h) := by
  cases hv with
  | any v => exact .any v
  | val v => exact .val v
  | ints h => exact .ints (h.mono k)
  | intss h => exact .intss (h.mono k)
  | @ro v r h => exact .ro (r.up k h)
  | iptr h h1 h2 => exact .iptr (h.mono k) h1 h2
  | iiptr h h1 h2 => exact .iiptr (h.mono k) h1 h2
  | own h1 =>
    simp only [AV.kill1]; split
    · exact .any _
    · exact .own (t.other _ _ ‹_› h1)
  | optr h1 =>
    simp only [AV.kill1]; split
    · exact .any _
    · exact .optr (t.other _ _ ‹_› h1)
  | osub h1 h2 h3 h4 =>
    simp only [AV.kill1]; split
    · exact .any _
    · exact .osub (t.other _ _ ‹_› h1) h2 h3 h4
  | @orow k i g v h1 h2 =>
    by_cases e : k = h
    · subst e
      obtain ⟨g', hg', hr⟩ := t.rows _ h1
      exact .orow hg' (hr _ _ h2)
    · exact .orow (t.other _ _ e h1) h2
  | @orptr k i j blk n c g h1 h2 =>
    by_cases e : k = h
    · subst e
      obtain ⟨g', hg', hr⟩ := t.rows _ h1
      exact .orptr hg' (hr _ _ h2)
    · exact .orptr (t.other _ _ e h1) h2
  | agg _ _ _ => exact .any _
  | tup _ _ => exact .any _

theorem getD_map_kill1 (l : List AV) (i : Nat) : (l.map (AV.kill1 h)).getD i .any = (l.getD i .any).kill1 h := by
  simp only [List.getD_eq_getElem?_getD, List.getElem?_map]
  cases l[i]? <;> rfl

theorem RV.kill (k : Keeps ok ok' w w') (t : Turned h gs gs') {v : Value} {a : AV} (hv : RV w ok gs v a) : RV w' ok' gs' v (a.kill h) := by
  cases hv with
  | any v => exact .any v
  | val v => exact .val v
  | ints h => exact .ints (h.mono k)
  | intss h => exact .intss (h.mono k)
  | @ro v r h => exact .ro (r.up k h)
  | iptr h h1 h2 => exact .iptr (h.mono k) h1 h2
  | iiptr h h1 h2 => exact .iiptr (h.mono k) h1 h2
  | own h1 =>
    simp only [AV.kill]; split
    · exact .any _
    · exact .own (t.other _ _ ‹_› h1)
  | optr h1 =>
    simp only [AV.kill]; split
    · exact .any _
    · exact .optr (t.other _ _ ‹_› h1)
  | osub h1 h2 h3 h4 =>
    simp only [AV.kill]; split
    · exact .any _
    · exact .osub (t.other _ _ ‹_› h1) h2 h3 h4
  | @orow k i g v h1 h2 =>
    by_cases e : k = h
    · subst e
      obtain ⟨g', hg', hr⟩ := t.rows _ h1
      exact .orow hg' (hr _ _ h2)
    · exact .orow (t.other _ _ e h1) h2
  | @orptr k i j blk n c g h1 h2 =>
    by_cases e : k = h
    · subst e
      obtain ⟨g', hg', hr⟩ := t.rows _ h1
      exact .orptr hg' (hr _ _ h2)
    · exact .orptr (t.other _ _ e h1) h2
  | agg h1 h3 h2 => exact .agg (by simpa using h1) h3 fun i => by rw [getD_map_kill1]; exact (h2 i).kill1 k t
  | tup h1 h2 => exact .tup (by simpa using h1) fun i => by rw [getD_map_kill1]; exact (h2 i).kill1 k t
end kill

/-! ### The slots: what was written last stands first -/
structure Env where
  n : Nat
  m : List (Nat × AV)
def fdm : List (Nat × AV) → Nat → Option AV
  | [], _ => none
  | (d, r) :: t, k => cond (Nat.beq d k) (some r) (fdm t k)
def Env.fd (e : Env) (k : Nat) : Option AV := cond (Nat.blt k e.n) (fdm e.m k) none
def Env.lk (e : Env) (k : Nat) : AV := (e.fd k).getD .any
def Env.up (e : Env) (d : Nat) (r : AV) : Env := ⟨e.n, (d, r) :: e.m⟩
def Env.mp (f : AV → AV) (e : Env) : Env := ⟨e.n, e.m.map fun p => (p.1, f p.2)⟩

theorem Env.lk_of {e : Env} {k : Nat} {a : AV} (h : e.fd k = some a) : e.lk k = a := by simp [Env.lk, h]
theorem Env.lk_up (e : Env) (d : Nat) (r : AV) (i : Nat) : (e.up d r).lk i = if i = d ∧ d < e.n then r else e.lk i := by
  simp only [Env.lk, Env.fd, Env.up, fdm]
  by_cases h : i = d
  · subst h
    have : Nat.beq i i = true := Nat.beq_refl i
    by_cases h2 : i < e.n
    · have h3 : Nat.blt i e.n = true := by rw [Nat.blt_eq]; exact h2
      simp [h2, h3]
    · have h3 : Nat.blt i e.n = false := by rw [Bool.eq_false_iff]; intro h4; rw [Nat.blt_eq] at h4; exact h2 h4
      simp [h2, h3]
  · have : Nat.beq d i = false := by rw [Bool.eq_false_iff]; intro h4; exact h (Nat.eq_of_beq_eq_true h4).symm
    simp [h, this]
theorem fdm_mp (f : AV → AV) (m : List (Nat × AV)) (k : Nat) : fdm (m.map fun p => (p.1, f p.2)) k = (fdm m k).map f := by
  induction m with
  | nil => rfl
  | cons p t ih =>
    obtain ⟨d, r⟩ := p
    simp only [List.map_cons, fdm, ih]
    cases Nat.beq d k <;> rfl
theorem Env.lk_mp (f : AV → AV) (hf : f .any = .any) (e : Env) (k : Nat) : (e.mp f).lk k = f (e.lk k) := by
  simp only [Env.lk, Env.fd, Env.mp, fdm_mp]
  cases Nat.blt k e.n
  · simp [hf]
  · cases fdm e.m k <;> simp [hf]

/-! ### Objects and the whole relation -/

/-- The blocks of a slice's ghost. -/
def GB (g : Gh) : Prop := (g.v.ownBlock = none ∧ g.bl = []) ∨ (g.v.ownBlock = some g.b ∧ g.bl = [g.b])

def RO (base : Nat) (w : World) (ok : Nat → Prop) (gs : List Gh) (g : Gh) : AO → Prop
  | .dead => True
  | .sli e xs => w.ownsRow base e 1 g.v xs.length (xs.map (Value.int .i64)) ∧ (∀ x ∈ xs, inI x) ∧ GB g
  | .slr e avs => ∃ vs : List Value, w.ownsRow base e 1 g.v vs.length vs ∧ vs.length = avs.length ∧ (∀ i : Nat, RV w ok gs (vs.getD i undef) (avs.getD i .any)) ∧ GB g
  | .sls e e2 xss => ∃ (vs : List Value) (bs : List (List Nat)) (mb : List Nat), w.ownsRow base e 1 g.v vs.length vs ∧ vs.length = xss.length ∧ bs.length = xss.length ∧ g.rows = vs ∧
      (∀ (i : Nat) u, vs[i]? = some u → w.ownsRow base e2 1 u (xss.getD i []).length ((xss.getD i []).map (Value.int .i64)) ∧ (∀ x ∈ xss.getD i [], inI x) ∧ u.ownBlock.toList = bs.getD i []) ∧
      ((g.v.ownBlock = none ∧ mb = []) ∨ (g.v.ownBlock = some g.b ∧ mb = [g.b])) ∧ g.bl = mb ++ bs.flatten ∧ g.bl.Nodup
  | .bx T avs => ∃ cs : List Value, w.heap[g.b]? = some (.cells cs.toArray T (0, 0)) ∧ base ≤ g.b ∧ g.bl = [g.b] ∧ g.v = .pointer (some ⟨g.b, 0, none⟩) ∧ cs.length = avs.length ∧
      (∀ c ∈ cs, c.oneCell' = true) ∧ ∀ i : Nat, RV w ok gs (cs.getD i undef) (avs.getD i .any)
  | .ob q => q.p base w g
  | .keep n K => (∀ b, b ∈ g.bl → w.heap[b]? = K.snap b) ∧ K.gs.length = n ∧ ∀ (i : Nat) x, K.gs[i]? = some x → gs[i]? = some x

/-- An object that may be written to. -/
def AO.live : AO → Prop
  | .dead => False
  | .keep _ _ => False
  | _ => True
theorem AO.live.ne {o : AO} (h : o.live) : o ≠ .dead := by cases o <;> simp_all [AO.live]

/-- The blocks that no live handle owns. -/
def okOf (gs : List Gh) (os : List AO) (b : Nat) : Prop := ∀ (h : Nat) g o, gs[h]? = some g → os[h]? = some o → o.live → b ∉ g.bl

structure Rel (base : Nat) (w : World) (gs : List Gh) (env : Env) (os : List AO) (tm : Array Value) : Prop where
  hb : base ≤ w.heap.size
  hl : gs.length = os.length
  hs : env.n ≤ tm.size
  he : ∀ i : Nat, RV w (okOf gs os) gs (tm.getD i undef) (env.lk i)
  ho : ∀ (h : Nat) g o, gs[h]? = some g → os[h]? = some o → RO base w (okOf gs os) gs g o
  hd : ∀ (h k : Nat) g g' o o', h ≠ k → gs[h]? = some g → gs[k]? = some g' → os[h]? = some o → os[k]? = some o' → o ≠ .dead → o' ≠ .dead → ∀ b, b ∈ g.bl → b ∉ g'.bl
  hn : ∀ (h : Nat) g o, gs[h]? = some g → os[h]? = some o → o ≠ .dead → ∀ b, b ∈ g.bl → base ≤ b ∧ b < w.heap.size

end Go.Proofs.YtfgnccoaebkckaaDoor
