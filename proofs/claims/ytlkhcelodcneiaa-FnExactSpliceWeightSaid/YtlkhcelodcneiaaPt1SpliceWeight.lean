/-
  Parts of the proof, one behind the other: contracts of functions and plain laws. No condition.
-/
import Derived.WalkKit
import Derived.WalkSpells
import Derived.WalkLawsBesides
import Derived.Deep.Quiet
import Derived.Deep.LoopGhost
import Derived.Great.BuildSlice
import Derived.IntWalk
import Derived.ProofKit
import Derived.OpenShut
import Derived.ShutString
import Derived.ChangeOld
import Derived.Below
import Derived.Carry
import Derived.Deep.Matrix
import Derived.Lib.SmallJoins
import Derived.Lib.LaidU8
import Derived.Laws.CopyOwn
import Derived.Maps.AppendAt
import Derived.Laws.Tables
/-
  The abstract machine over the walk's weakest preconditions: values that are only read are plain lists, memory that the call itself made stands behind handles. No condition.
-/
namespace Go.Proofs.Ytlkhcelodcneiaa
open Go Go.RowKit

def inI (n : Int) : Prop := -9223372036854775808 ≤ n ∧ n ≤ 9223372036854775807

/-! ### Rows of memory that are read as lists -/

/-- The slice value 'v' reads as the cells 'vs', which lie in one block of the class 'ok'. -/
def RowAt (w : World) (ok : Nat → Prop) (v : Value) (vs : List Value) : Prop :=
  ∃ a cap, v = .slice a vs.length cap ∧ vs.length ≤ cap ∧ cap ≤ maxLen ∧
    (0 < vs.length → ∃ b off, a = some ⟨b, off, none⟩ ∧ ok b ∧ ∀ i u, vs[i]? = some u → w.cell? ⟨b, off + i, none⟩ = some u)

def IntsAt (w : World) (ok : Nat → Prop) (v : Value) (xs : List Int) : Prop :=
  RowAt w ok v (xs.map (Value.int .i64)) ∧ ∀ x ∈ xs, inI x

def IntssAt (w : World) (ok : Nat → Prop) (v : Value) (xss : List (List Int)) : Prop :=
  ∃ vs : List Value, RowAt w ok v vs ∧ vs.length = xss.length ∧ ∀ (i : Nat) u, vs[i]? = some u → IntsAt w ok u (xss.getD i [])

/-- What lies in the class 'ok' in 'w' lies in the class 'ok'' in 'w'', unchanged. -/
def Keeps (ok ok' : Nat → Prop) (w w' : World) : Prop := ∀ b, ok b → b < w.heap.size → ok' b ∧ w'.heap[b]? = w.heap[b]?

theorem Keeps.refl (ok : Nat → Prop) (w : World) : Keeps ok ok w w := fun _ h _ => ⟨h, rfl⟩
theorem Keeps.below {ok : Nat → Prop} {w w' : World} (h : Below w.heap.size w w') : Keeps ok ok w w' := fun b hb hl => ⟨hb, h.block b hl⟩

theorem RowAt.mono {w w' : World} {ok ok' : Nat → Prop} {v : Value} {vs : List Value} (h : RowAt w ok v vs) (k : Keeps ok ok' w w') : RowAt w' ok' v vs := by
  obtain ⟨a, cap, hv, h1, h2, h3⟩ := h
  refine ⟨a, cap, hv, h1, h2, fun hp => ?_⟩
  obtain ⟨b, off, ha, hok, hc⟩ := h3 hp
  have hlt := World.block_lt_of_cell? w _ (hc 0 _ (List.getElem?_eq_getElem hp))
  have hk := k b hok hlt
  exact ⟨b, off, ha, hk.1, fun i u hu => (World.cell?_of_block (w := w) hk.2).trans (hc i u hu)⟩

theorem IntsAt.mono {w w' : World} {ok ok' : Nat → Prop} {v : Value} {xs : List Int} (h : IntsAt w ok v xs) (k : Keeps ok ok' w w') : IntsAt w' ok' v xs :=
  ⟨h.1.mono k, h.2⟩

theorem IntssAt.mono {w w' : World} {ok ok' : Nat → Prop} {v : Value} {xss : List (List Int)} (h : IntssAt w ok v xss) (k : Keeps ok ok' w w') : IntssAt w' ok' v xss :=
  let ⟨vs, h1, h2, h3⟩ := h
  ⟨vs, h1.mono k, h2, fun i u hu => (h3 i u hu).mono k⟩

/-- A way to read memory that is not written: a predicate that what is kept keeps. -/
structure Ro where
  p : World → (Nat → Prop) → Value → Prop
  up : ∀ {w w' : World} {ok ok' : Nat → Prop} {v : Value}, Keeps ok ok' w w' → p w ok v → p w' ok' v

/-! ### Abstract values, handles, objects -/

inductive AV where
  | any
  | val (v : Value)
  | ints (xs : List Int)
  | intss (xss : List (List Int))
  | iptr (xs : List Int) (i : Int)
  | iiptr (xss : List (List Int)) (i : Int)
  | own (h : Nat)
  | optr (h : Nat) (i : Nat)
  | osub (h : Nat) (off : Nat) (len : Nat)
  | orow (h : Nat) (i : Nat)
  | orptr (h : Nat) (i : Nat) (j : Nat)
  | agg (l : List AV)
  | tup (l : List AV)
  | ro (r : Ro)

abbrev AV.i (n : Int) : AV := .val (.int .i64 n)
abbrev AV.b (b : Bool) : AV := .val (.bool b)

structure Gh where
  v : Value
  b : Nat
  bl : List Nat
  rows : List Value

/-- An object that holds no handle: what is said of it, which stays as long as its blocks do. -/
structure Ob where
  p : Nat → World → Gh → Prop
  up : ∀ {base : Nat} {w w' : World} {g : Gh}, (∀ b, b ∈ g.bl → w'.heap[b]? = w.heap[b]?) → p base w g → p base w' g
  lower : ∀ {base base' : Nat} {w : World} {g : Gh}, base' ≤ base → p base w g → p base' w g
  one : ∀ {base : Nat} {w : World} {g : Gh}, p base w g → g.v.oneCell' = true ∧ g.v.cells = #[g.v]
/-- An object of one block: how its value is made of the block's number, and what it is. -/
def ob1 (val : Nat → Value) (p : Obj → Prop) (one : ∀ b, (val b).oneCell' = true ∧ (val b).cells = #[val b]) : Ob where
  p base w g := ∃ o, w.heap[g.b]? = some o ∧ p o ∧ base ≤ g.b ∧ g.bl = [g.b] ∧ g.v = val g.b
  up hb h := by
    obtain ⟨o, h1, h2, h3, h4, h5⟩ := h
    exact ⟨o, by rw [hb _ (by simp [h4])]; exact h1, h2, h3, h4, h5⟩
  lower hb h := by
    obtain ⟨o, h1, h2, h3, h4, h5⟩ := h
    exact ⟨o, h1, h2, Nat.le_trans hb h3, h4, h5⟩
  one h := by
    obtain ⟨o, _, _, _, _, h5⟩ := h
    rw [h5]; exact one _

/-- What memory held, and what the first handles were. -/
structure Kp where
  snap : Nat → Option Obj
  gs : List Gh

inductive AO where
  | dead
  | sli (e : TypeId) (xs : List Int)
  | slr (e : TypeId) (avs : List AV)
  | sls (e e2 : TypeId) (xss : List (List Int))
  | bx (T : TypeId) (avs : List AV)
  | ob (q : Ob)
  | keep (n : Nat) (K : Kp)

def eptr (v : Value) (i : Int) : Value :=
  match v with
  | .slice (some a) _ _ => .pointer (some (a.add i.toNat))
  | _ => undef

inductive RV (w : World) (ok : Nat → Prop) (gs : List Gh) : Value → AV → Prop
  | any (v : Value) : RV w ok gs v .any
  | val (v : Value) : RV w ok gs v (.val v)
  | ints {v : Value} {xs : List Int} : IntsAt w ok v xs → RV w ok gs v (.ints xs)
  | intss {v : Value} {xss : List (List Int)} : IntssAt w ok v xss → RV w ok gs v (.intss xss)
  | iptr {v : Value} {xs : List Int} {i : Int} : IntsAt w ok v xs → 0 ≤ i → i < xs.length → RV w ok gs (eptr v i) (.iptr xs i)
  | iiptr {v : Value} {xss : List (List Int)} {i : Int} : IntssAt w ok v xss → 0 ≤ i → i < xss.length → RV w ok gs (eptr v i) (.iiptr xss i)
  | own {h : Nat} {g : Gh} : gs[h]? = some g → RV w ok gs g.v (.own h)
  | optr {h i : Nat} {g : Gh} : gs[h]? = some g → RV w ok gs (.pointer (some ⟨g.b, i, none⟩)) (.optr h i)
  | osub {h off len cap : Nat} {p : Option Addr} {g : Gh} : gs[h]? = some g → (0 < len → p = some ⟨g.b, off, none⟩) → len ≤ cap → cap ≤ maxLen → RV w ok gs (.slice p len cap) (.osub h off len)
  | orow {h i : Nat} {g : Gh} {v : Value} : gs[h]? = some g → g.rows[i]? = some v → RV w ok gs v (.orow h i)
  | orptr {h i j blk n c : Nat} {g : Gh} : gs[h]? = some g → g.rows[i]? = some (.slice (some ⟨blk, 0, none⟩) n c) → RV w ok gs (.pointer (some ⟨blk, j, none⟩)) (.orptr h i j)
  | agg {vs : List Value} {l : List AV} : vs.length = l.length → (∀ v ∈ vs, v.oneCell' = true) → (∀ i : Nat, RV w ok gs (vs.getD i undef) (l.getD i .any)) → RV w ok gs (.agg vs.toArray) (.agg l)
  | tup {vs : List Value} {l : List AV} : vs.length = l.length → (∀ i : Nat, RV w ok gs (vs.getD i undef) (l.getD i .any)) → RV w ok gs (.tuple vs.toArray) (.tup l)
  | ro {v : Value} {r : Ro} : r.p w ok v → RV w ok gs v (.ro r)

theorem RV.mono {w w' : World} {ok ok' : Nat → Prop} {gs gs' : List Gh} (k : Keeps ok ok' w w') (hg : ∀ (h : Nat) g, gs[h]? = some g → gs'[h]? = some g)
    {v : Value} {a : AV} (h : RV w ok gs v a) : RV w' ok' gs' v a := by
  induction h with
  | any v => exact .any v
  | val v => exact .val v
  | ints h => exact .ints (h.mono k)
  | intss h => exact .intss (h.mono k)
  | @ro v r h => exact .ro (r.up k h)
  | iptr h h1 h2 => exact .iptr (h.mono k) h1 h2
  | iiptr h h1 h2 => exact .iiptr (h.mono k) h1 h2
  | own h => exact .own (hg _ _ h)
  | optr h => exact .optr (hg _ _ h)
  | osub h h1 h2 h3 => exact .osub (hg _ _ h) h1 h2 h3
  | orow h h1 => exact .orow (hg _ _ h) h1
  | orptr h h1 => exact .orptr (hg _ _ h) h1
  | agg h h1 _ ih => exact .agg h h1 ih
  | tup h _ ih => exact .tup h ih

/-- The value of handle 'h' turns: what names it by value is forgotten. -/
def AV.kill1 (h : Nat) : AV → AV
  | .own k => if k = h then .any else .own k
  | .optr k i => if k = h then .any else .optr k i
  | .osub k a b => if k = h then .any else .osub k a b
  | .agg _ => .any
  | .tup _ => .any
  | a => a
def AV.kill (h : Nat) : AV → AV
  | .own k => if k = h then .any else .own k
  | .optr k i => if k = h then .any else .optr k i
  | .osub k a b => if k = h then .any else .osub k a b
  | .agg l => .agg (l.map (AV.kill1 h))
  | .tup l => .tup (l.map (AV.kill1 h))
  | a => a

section kill
variable {w w' : World} {ok ok' : Nat → Prop} {gs gs' : List Gh} {h : Nat}

/-- Ghosts other than h stay; that of h may have a new value, its rows are still there. -/
structure Turned (h : Nat) (gs gs' : List Gh) : Prop where
  other : ∀ (k : Nat) g, k ≠ h → gs[k]? = some g → gs'[k]? = some g
  rows : ∀ g, gs[h]? = some g → ∃ g', gs'[h]? = some g' ∧ ∀ (i : Nat) v, g.rows[i]? = some v → g'.rows[i]? = some v

theorem RV.kill1 (k : Keeps ok ok' w w') (t : Turned h gs gs') {v : Value} {a : AV} (hv : RV w ok gs v a) : RV w' ok' gs' v (a.kill1 h) := by
  cases hv with
  | any v => exact .any v
  | val v => exact .val v
  | ints h => exact .ints (h.mono k)
  | intss h => exact .intss (h.mono k)
  | @ro v r h => exact .ro (r.up k h)
  | iptr h h1 h2 => exact .iptr (h.mono k) h1 h2
  | iiptr h h1 h2 => exact .iiptr (h.mono k) h1 h2
  | own h1 =>
    simp only [AV.kill1]; split
    · exact .any _
    · exact .own (t.other _ _ ‹_› h1)
  | optr h1 =>
    simp only [AV.kill1]; split
    · exact .any _
    · exact .optr (t.other _ _ ‹_› h1)
  | osub h1 h2 h3 h4 =>
    simp only [AV.kill1]; split
    · exact .any _
    · exact .osub (t.other _ _ ‹_› h1) h2 h3 h4
  | @orow k i g v h1 h2 =>
    by_cases e : k = h
    · subst e
      obtain ⟨g', hg', hr⟩ := t.rows _ h1
      exact .orow hg' (hr _ _ h2)
    · exact .orow (t.other _ _ e h1) h2
  | @orptr k i j blk n c g h1 h2 =>
    by_cases e : k = h
    · subst e
      obtain ⟨g', hg', hr⟩ := t.rows _ h1
      exact .orptr hg' (hr _ _ h2)
    · exact .orptr (t.other _ _ e h1) h2
  | agg _ _ _ => exact .any _
  | tup _ _ => exact .any _

theorem getD_map_kill1 (l : List AV) (i : Nat) : (l.map (AV.kill1 h)).getD i .any = (l.getD i .any).kill1 h := by
  simp only [List.getD_eq_getElem?_getD, List.getElem?_map]
  cases l[i]? <;> rfl

theorem RV.kill (k : Keeps ok ok' w w') (t : Turned h gs gs') {v : Value} {a : AV} (hv : RV w ok gs v a) : RV w' ok' gs' v (a.kill h) := by
  cases hv with
  | any v => exact .any v
  | val v => exact .val v
  | ints h => exact .ints (h.mono k)
  | intss h => exact .intss (h.mono k)
  | @ro v r h => exact .ro (r.up k h)
  | iptr h h1 h2 => exact .iptr (h.mono k) h1 h2
  | iiptr h h1 h2 => exact .iiptr (h.mono k) h1 h2
  | own h1 =>
    simp only [AV.kill]; split
    · exact .any _
    · exact .own (t.other _ _ ‹_› h1)
  | optr h1 =>
    simp only [AV.kill]; split
    · exact .any _
    · exact .optr (t.other _ _ ‹_› h1)
  | osub h1 h2 h3 h4 =>
    simp only [AV.kill]; split
    · exact .any _
    · exact .osub (t.other _ _ ‹_› h1) h2 h3 h4
  | @orow k i g v h1 h2 =>
    by_cases e : k = h
    · subst e
      obtain ⟨g', hg', hr⟩ := t.rows _ h1
      exact .orow hg' (hr _ _ h2)
    · exact .orow (t.other _ _ e h1) h2
  | @orptr k i j blk n c g h1 h2 =>
    by_cases e : k = h
    · subst e
      obtain ⟨g', hg', hr⟩ := t.rows _ h1
      exact .orptr hg' (hr _ _ h2)
    · exact .orptr (t.other _ _ e h1) h2
  | agg h1 h3 h2 => exact .agg (by simpa using h1) h3 fun i => by rw [getD_map_kill1]; exact (h2 i).kill1 k t
  | tup h1 h2 => exact .tup (by simpa using h1) fun i => by rw [getD_map_kill1]; exact (h2 i).kill1 k t
end kill

/-! ### The slots: what was written last stands first -/
structure Env where
  n : Nat
  m : List (Nat × AV)
def fdm : List (Nat × AV) → Nat → Option AV
  | [], _ => none
  | (d, r) :: t, k => cond (Nat.beq d k) (some r) (fdm t k)
def Env.fd (e : Env) (k : Nat) : Option AV := cond (Nat.blt k e.n) (fdm e.m k) none
def Env.lk (e : Env) (k : Nat) : AV := (e.fd k).getD .any
def Env.up (e : Env) (d : Nat) (r : AV) : Env := ⟨e.n, (d, r) :: e.m⟩
def Env.mp (f : AV → AV) (e : Env) : Env := ⟨e.n, e.m.map fun p => (p.1, f p.2)⟩

theorem Env.lk_of {e : Env} {k : Nat} {a : AV} (h : e.fd k = some a) : e.lk k = a := by simp [Env.lk, h]
theorem Env.lk_up (e : Env) (d : Nat) (r : AV) (i : Nat) : (e.up d r).lk i = if i = d ∧ d < e.n then r else e.lk i := by
  simp only [Env.lk, Env.fd, Env.up, fdm]
  by_cases h : i = d
  · subst h
    have : Nat.beq i i = true := Nat.beq_refl i
    by_cases h2 : i < e.n
    · have h3 : Nat.blt i e.n = true := by rw [Nat.blt_eq]; exact h2
      simp [h2, h3]
    · have h3 : Nat.blt i e.n = false := by rw [Bool.eq_false_iff]; intro h4; rw [Nat.blt_eq] at h4; exact h2 h4
      simp [h2, h3]
  · have : Nat.beq d i = false := by rw [Bool.eq_false_iff]; intro h4; exact h (Nat.eq_of_beq_eq_true h4).symm
    simp [h, this]
theorem fdm_mp (f : AV → AV) (m : List (Nat × AV)) (k : Nat) : fdm (m.map fun p => (p.1, f p.2)) k = (fdm m k).map f := by
  induction m with
  | nil => rfl
  | cons p t ih =>
    obtain ⟨d, r⟩ := p
    simp only [List.map_cons, fdm, ih]
    cases Nat.beq d k <;> rfl
theorem Env.lk_mp (f : AV → AV) (hf : f .any = .any) (e : Env) (k : Nat) : (e.mp f).lk k = f (e.lk k) := by
  simp only [Env.lk, Env.fd, Env.mp, fdm_mp]
  cases Nat.blt k e.n
  · simp [hf]
  · cases fdm e.m k <;> simp [hf]

/-! ### Objects and the whole relation -/

/-- The blocks of a slice's ghost. -/
def GB (g : Gh) : Prop := (g.v.ownBlock = none ∧ g.bl = []) ∨ (g.v.ownBlock = some g.b ∧ g.bl = [g.b])

def RO (base : Nat) (w : World) (ok : Nat → Prop) (gs : List Gh) (g : Gh) : AO → Prop
  | .dead => True
  | .sli e xs => w.ownsRow base e 1 g.v xs.length (xs.map (Value.int .i64)) ∧ (∀ x ∈ xs, inI x) ∧ GB g
  | .slr e avs => ∃ vs : List Value, w.ownsRow base e 1 g.v vs.length vs ∧ vs.length = avs.length ∧ (∀ i : Nat, RV w ok gs (vs.getD i undef) (avs.getD i .any)) ∧ GB g
  | .sls e e2 xss => ∃ (vs : List Value) (bs : List (List Nat)) (mb : List Nat), w.ownsRow base e 1 g.v vs.length vs ∧ vs.length = xss.length ∧ bs.length = xss.length ∧ g.rows = vs ∧
      (∀ (i : Nat) u, vs[i]? = some u → w.ownsRow base e2 1 u (xss.getD i []).length ((xss.getD i []).map (Value.int .i64)) ∧ (∀ x ∈ xss.getD i [], inI x) ∧ u.ownBlock.toList = bs.getD i []) ∧
      ((g.v.ownBlock = none ∧ mb = []) ∨ (g.v.ownBlock = some g.b ∧ mb = [g.b])) ∧ g.bl = mb ++ bs.flatten ∧ g.bl.Nodup
  | .bx T avs => ∃ cs : List Value, w.heap[g.b]? = some (.cells cs.toArray T (0, 0)) ∧ base ≤ g.b ∧ g.bl = [g.b] ∧ g.v = .pointer (some ⟨g.b, 0, none⟩) ∧ cs.length = avs.length ∧
      (∀ c ∈ cs, c.oneCell' = true) ∧ ∀ i : Nat, RV w ok gs (cs.getD i undef) (avs.getD i .any)
  | .ob q => q.p base w g
  | .keep n K => (∀ b, b ∈ g.bl → w.heap[b]? = K.snap b) ∧ K.gs.length = n ∧ ∀ (i : Nat) x, K.gs[i]? = some x → gs[i]? = some x

/-- An object that may be written to. -/
def AO.live : AO → Prop
  | .dead => False
  | .keep _ _ => False
  | _ => True
theorem AO.live.ne {o : AO} (h : o.live) : o ≠ .dead := by cases o <;> simp_all [AO.live]

/-- The blocks that no live handle owns. -/
def okOf (gs : List Gh) (os : List AO) (b : Nat) : Prop := ∀ (h : Nat) g o, gs[h]? = some g → os[h]? = some o → o.live → b ∉ g.bl

structure Rel (base : Nat) (w : World) (gs : List Gh) (env : Env) (os : List AO) (tm : Array Value) : Prop where
  hb : base ≤ w.heap.size
  hl : gs.length = os.length
  hs : env.n ≤ tm.size
  he : ∀ i : Nat, RV w (okOf gs os) gs (tm.getD i undef) (env.lk i)
  ho : ∀ (h : Nat) g o, gs[h]? = some g → os[h]? = some o → RO base w (okOf gs os) gs g o
  hd : ∀ (h k : Nat) g g' o o', h ≠ k → gs[h]? = some g → gs[k]? = some g' → os[h]? = some o → os[k]? = some o' → o ≠ .dead → o' ≠ .dead → ∀ b, b ∈ g.bl → b ∉ g'.bl
  hn : ∀ (h : Nat) g o, gs[h]? = some g → os[h]? = some o → o ≠ .dead → ∀ b, b ∈ g.bl → base ≤ b ∧ b < w.heap.size

end Go.Proofs.Ytlkhcelodcneiaa
/-
  The relation between a world and an abstract state, and how it is handed on: a new object, a store, a value that turns, what is forgotten. No condition.
-/
namespace Go.Proofs.Ytlkhcelodcneiaa
open Go Go.RowKit

theorem getD_set (l : List AV) (d : Nat) (r : AV) (i : Nat) : (l.set d r).getD i .any = if i = d ∧ d < l.length then r else l.getD i .any := by
  simp only [List.getD_eq_getElem?_getD, List.getElem?_set]
  by_cases h : d = i
  · subst h
    by_cases h2 : d < l.length
    · simp [h2]
    · simp [h2]
  · have h' : ¬ i = d := fun e => h e.symm
    simp [h, h']

theorem getD_setIfInBounds (tm : Array Value) (d : Nat) (v : Value) (i : Nat) : (tm.setIfInBounds d v).getD i undef = if i = d ∧ d < tm.size then v else tm.getD i undef := by
  simp only [Array.getD_eq_getD_getElem?, Array.getElem?_setIfInBounds]
  by_cases h : d = i
  · subst h
    by_cases h2 : d < tm.size
    · simp [h2]
    · simp [h2]
  · have h' : ¬ i = d := fun e => h e.symm
    simp [h, h']

theorem ownsRow_of_block {w w' : World} {base : Nat} {e : TypeId} {size : Nat} {v : Value} {n : Nat} {xs : List Value} (h : w.ownsRow base e size v n xs)
    (hb : ∀ k, v.ownBlock = some k → w'.heap[k]? = w.heap[k]?) : w'.ownsRow base e size v n xs := by
  obtain ⟨h1, h2⟩ := h
  refine ⟨h1, ?_⟩
  rcases h2 with h2 | ⟨g, cap, cur, hv, hb1, hh, r⟩
  · exact .inl h2
  · exact .inr ⟨g, cap, cur, hv, hb1, by rw [hb g (by rw [hv]; rfl)]; exact hh, r⟩

theorem GB.mem {g : Gh} (h : GB g) {k : Nat} (hk : g.v.ownBlock = some k) : k ∈ g.bl := by
  rcases h with ⟨h1, _⟩ | ⟨h1, h2⟩
  · rw [h1] at hk; cases hk
  · rw [h1] at hk; cases hk; rw [h2]; simp

theorem RO.mono {base : Nat} {w w' : World} {ok ok' : Nat → Prop} {gs gs' : List Gh} {g : Gh} {o : AO} (k : Keeps ok ok' w w')
    (hg : ∀ (h : Nat) g, gs[h]? = some g → gs'[h]? = some g) (hbl : o ≠ .dead → ∀ b, b ∈ g.bl → w'.heap[b]? = w.heap[b]?) (h : RO base w ok gs g o) : RO base w' ok' gs' g o := by
  cases o with
  | dead => trivial
  | sli e xs =>
    obtain ⟨h1, h2, h3⟩ := h
    exact ⟨ownsRow_of_block h1 fun b hb => hbl (by simp) b (h3.mem hb), h2, h3⟩
  | slr e avs =>
    obtain ⟨vs, h1, h2, h3, h4⟩ := h
    exact ⟨vs, ownsRow_of_block h1 fun b hb => hbl (by simp) b (h4.mem hb), h2, fun i => (h3 i).mono k hg, h4⟩
  | sls e e2 xss =>
    obtain ⟨vs, bs, mb, h1, h2, h3, h4, h5, h6, h7, h8⟩ := h
    refine ⟨vs, bs, mb, ownsRow_of_block h1 fun b hb => hbl (by simp) b ?_, h2, h3, h4, fun i u hu => ?_, h6, h7, h8⟩
    · rw [h7]
      rcases h6 with ⟨h6, _⟩ | ⟨h6, h6'⟩
      · rw [h6] at hb; cases hb
      · rw [h6] at hb; cases hb; simp [h6']
    · obtain ⟨r1, r2, r3⟩ := h5 i u hu
      refine ⟨ownsRow_of_block r1 fun b hb => hbl (by simp) b ?_, r2, r3⟩
      rw [h7]
      refine List.mem_append.2 (.inr (List.mem_flatten.2 ⟨bs.getD i [], ?_, by rw [← r3, hb]; simp⟩))
      have hi : i < bs.length := by
        have := (List.getElem?_eq_some_iff.1 hu).1
        omega
      rw [List.getD_eq_getElem?_getD, List.getElem?_eq_getElem hi]
      simp
  | bx T avs =>
    obtain ⟨cs, h1, h2, h3, h4, h5, h6, h7⟩ := h
    exact ⟨cs, by rw [hbl (by simp) g.b (by simp [h3])]; exact h1, h2, h3, h4, h5, h6, fun i => (h7 i).mono k hg⟩
  | ob q => exact q.up (fun b hb => hbl (by simp) b hb) h
  | keep n K =>
    obtain ⟨h1, h2, h3⟩ := h
    exact ⟨fun b hb => by rw [hbl (by simp) b hb]; exact h1 b hb, h2, fun i x hx => hg i x (h3 i x hx)⟩

section
variable {base : Nat} {w w' : World} {gs : List Gh} {env : Env} {os : List AO} {tm : Array Value}

theorem Rel.below (h : Rel base w gs env os tm) (b : Below w.heap.size w w') : Rel base w' gs env os tm where
  hb := Nat.le_trans h.hb b.size
  hl := h.hl
  hs := h.hs
  he i := (h.he i).mono (Keeps.below b) (fun _ _ e => e)
  ho k g o hg ho := (h.ho k g o hg ho).mono (Keeps.below b) (fun _ _ e => e) fun hnd c hc => b.block c (h.hn k g o hg ho hnd c hc).2
  hd := h.hd
  hn k g o hg ho hnd c hc := ⟨(h.hn k g o hg ho hnd c hc).1, Nat.lt_of_lt_of_le (h.hn k g o hg ho hnd c hc).2 b.size⟩

theorem Rel.put (h : Rel base w gs env os tm) {v : Value} {r : AV} (hv : RV w (okOf gs os) gs v r) (d : Nat) : Rel base w gs (env.up d r) os (tm.setIfInBounds d v) where
  hb := h.hb
  hl := h.hl
  hs := by simpa [Env.up] using h.hs
  he i := by
    rw [Env.lk_up, getD_setIfInBounds]
    by_cases h1 : i = d
    · subst h1
      by_cases h2 : i < env.n
      · have h3 : i < tm.size := Nat.lt_of_lt_of_le h2 h.hs
        simpa [h2, h3] using hv
      · have h4 : env.lk i = .any := by
          have h3 : Nat.blt i env.n = false := by rw [Bool.eq_false_iff]; intro h4; rw [Nat.blt_eq] at h4; exact h2 h4
          simp [Env.lk, Env.fd, h3]
        simp only [h2, and_false, if_false, h4]
        exact .any _
    · simpa [h1] using h.he i
  ho := h.ho
  hd := h.hd
  hn := h.hn

theorem append_one {α : Type} {l : List α} {x y : α} {k : Nat} (h : (l ++ [x])[k]? = some y) : (k < l.length ∧ l[k]? = some y) ∨ (k = l.length ∧ y = x) := by
  rw [List.getElem?_append] at h
  split at h
  · exact .inl ⟨‹_›, h⟩
  · rename_i hk
    have : k - l.length = 0 := by
      rcases Nat.lt_or_ge 0 (k - l.length) with h0 | h0
      · rw [List.getElem?_eq_none (by simp; omega)] at h; cases h
      · omega
    rw [this] at h
    simp at h
    exact .inr ⟨by omega, h.symm⟩

theorem keeps_new {g : Gh} {o : AO} (hl : gs.length = os.length) (hbel : Below w.heap.size w w') (hno : o ≠ .dead → ∀ b, b ∈ g.bl → w.heap.size ≤ b ∧ b < w'.heap.size) :
    Keeps (okOf gs os) (okOf (gs ++ [g]) (os ++ [o])) w w' := by
  intro b hb hlt
  refine ⟨?_, hbel.block b hlt⟩
  intro k g' o' hg' ho' hnd hmem
  rcases append_one hg' with ⟨h1, h2⟩ | ⟨h1, rfl⟩
  · rcases append_one ho' with ⟨h3, h4⟩ | ⟨h3, rfl⟩
    · exact hb k g' o' h2 h4 hnd hmem
    · omega
  · rcases append_one ho' with ⟨h3, h4⟩ | ⟨h3, rfl⟩
    · omega
    · have := (hno hnd.ne b hmem).1; omega

/-- A new object stands behind a new handle. -/
theorem Rel.new (h : Rel base w gs env os tm) (hbel : Below w.heap.size w w') (o : AO) (g : Gh) (hno : o ≠ .dead → ∀ b, b ∈ g.bl → w.heap.size ≤ b ∧ b < w'.heap.size)
    (hro : RO base w' (okOf (gs ++ [g]) (os ++ [o])) (gs ++ [g]) g o) : Rel base w' (gs ++ [g]) env (os ++ [o]) tm := by
  have k := keeps_new (o := o) h.hl hbel hno
  have hgs : ∀ (i : Nat) g', gs[i]? = some g' → (gs ++ [g])[i]? = some g' := fun i g' e => by
    rw [List.getElem?_append_left (List.getElem?_eq_some_iff.1 e).1]; exact e
  refine ⟨Nat.le_trans h.hb hbel.size, by simp [h.hl], h.hs, fun i => (h.he i).mono k hgs, ?_, ?_, ?_⟩
  · intro i g' o' hg' ho'
    rcases append_one hg' with ⟨h1, h2⟩ | ⟨h1, rfl⟩
    · rcases append_one ho' with ⟨h3, h4⟩ | ⟨h3, rfl⟩
      · exact (h.ho i g' o' h2 h4).mono k hgs fun hnd c hc => hbel.block c (h.hn i g' o' h2 h4 hnd c hc).2
      · have := h.hl; omega
    · rcases append_one ho' with ⟨h3, h4⟩ | ⟨h3, rfl⟩
      · have := h.hl; omega
      · exact hro
  · intro i j g1 g2 o1 o2 hij hg1 hg2 ho1 ho2 hn1 hn2 b hb1 hb2
    have hl := h.hl
    rcases append_one hg1 with ⟨a1, a2⟩ | ⟨a1, rfl⟩
    · rcases append_one ho1 with ⟨a3, a4⟩ | ⟨a3, rfl⟩
      · rcases append_one hg2 with ⟨b1, b2⟩ | ⟨b1, rfl⟩
        · rcases append_one ho2 with ⟨b3, b4⟩ | ⟨b3, rfl⟩
          · exact h.hd i j g1 g2 o1 o2 hij a2 b2 a4 b4 hn1 hn2 b hb1 hb2
          · omega
        · rcases append_one ho2 with ⟨b3, b4⟩ | ⟨b3, rfl⟩
          · omega
          · have := (hno hn2 b hb2).1
            have := (h.hn i g1 o1 a2 a4 hn1 b hb1).2
            omega
      · omega
    · rcases append_one ho1 with ⟨a3, a4⟩ | ⟨a3, rfl⟩
      · omega
      · rcases append_one hg2 with ⟨b1, b2⟩ | ⟨b1, rfl⟩
        · rcases append_one ho2 with ⟨b3, b4⟩ | ⟨b3, rfl⟩
          · have := (hno hn1 b hb1).1
            have := (h.hn j g2 o2 b2 b4 hn2 b hb2).2
            omega
          · omega
        · omega
  · intro i g' o' hg' ho' hnd b hb
    have hl := h.hl
    rcases append_one hg' with ⟨h1, h2⟩ | ⟨h1, rfl⟩
    · rcases append_one ho' with ⟨h3, h4⟩ | ⟨h3, rfl⟩
      · have := h.hn i g' o' h2 h4 hnd b hb
        exact ⟨this.1, Nat.lt_of_lt_of_le this.2 hbel.size⟩
      · omega
    · rcases append_one ho' with ⟨h3, h4⟩ | ⟨h3, rfl⟩
      · omega
      · have := hno hnd b hb
        exact ⟨Nat.le_trans h.hb this.1, this.2⟩

def AO.kill (h : Nat) : AO → AO
  | .bx T avs => .bx T (avs.map (AV.kill h))
  | .slr e avs => .slr e (avs.map (AV.kill h))
  | .keep n K => if h < n then .keep 0 ⟨K.snap, []⟩ else .keep n K
  | o => o

theorem AO.kill_dead {h : Nat} {o : AO} : o.kill h = .dead ↔ o = .dead := by cases o <;> simp [AO.kill]; split <;> simp
theorem AO.kill_live {h : Nat} {o : AO} : (o.kill h).live ↔ o.live := by
  cases o with
  | keep n K => simp only [AO.kill]; split <;> exact Iff.rfl
  | _ => exact Iff.rfl

theorem getD_map_kill (h : Nat) (l : List AV) (i : Nat) : (l.map (AV.kill h)).getD i .any = (l.getD i .any).kill h := by
  simp only [List.getD_eq_getElem?_getD, List.getElem?_map]
  cases l[i]? <;> rfl

/-- Object 'k' turns: its value may be another one, its blocks may be new. -/
theorem Rel.turn (h : Rel base w gs env os tm) {k : Nat} {g : Gh} {o : AO} (hg : gs[k]? = some g) (ho : os[k]? = some o) (hlv : o.live) (g' : Gh) (o' : AO)
    (hw : ∀ b, b < w.heap.size → b ∉ g.bl → w'.heap[b]? = w.heap[b]?) (hsz : w.heap.size ≤ w'.heap.size)
    (hbl : ∀ b, b ∈ g'.bl → (b ∈ g.bl ∨ w.heap.size ≤ b) ∧ b < w'.heap.size) (hrows : ∀ (i : Nat) v, g.rows[i]? = some v → g'.rows[i]? = some v)
    (hro : Keeps (okOf gs os) (okOf (gs.set k g') ((os.map (AO.kill k)).set k o')) w w' → Turned k gs (gs.set k g') →
      RO base w' (okOf (gs.set k g') ((os.map (AO.kill k)).set k o')) (gs.set k g') g' o') :
    Rel base w' (gs.set k g') (env.mp (AV.kill k)) ((os.map (AO.kill k)).set k o') tm := by
  have hnd := hlv.ne
  have hkg : k < gs.length := (List.getElem?_eq_some_iff.1 hg).1
  have hko : k < os.length := (List.getElem?_eq_some_iff.1 ho).1
  have gset : ∀ {i : Nat} {x : Gh}, (gs.set k g')[i]? = some x → (i = k ∧ x = g') ∨ (i ≠ k ∧ gs[i]? = some x) := by
    intro i x e
    rw [List.getElem?_set] at e
    split at e
    · subst_vars; simp at e; exact .inl ⟨rfl, e.symm⟩
    · exact .inr ⟨fun e' => by simp_all, e⟩
  have oset : ∀ {i : Nat} {x : AO}, ((os.map (AO.kill k)).set k o')[i]? = some x → (i = k ∧ x = o') ∨ (i ≠ k ∧ ∃ y, os[i]? = some y ∧ x = y.kill k) := by
    intro i x e
    rw [List.getElem?_set] at e
    split at e
    · subst_vars; simp [hko] at e; exact .inl ⟨rfl, e.symm⟩
    · refine .inr ⟨fun e' => by simp_all, ?_⟩
      rw [List.getElem?_map] at e
      cases hy : os[i]? with
      | none => simp [hy] at e
      | some y => simp [hy] at e; exact ⟨y, rfl, e.symm⟩
  have kp : Keeps (okOf gs os) (okOf (gs.set k g') ((os.map (AO.kill k)).set k o')) w w' := by
    intro b hb hlt
    refine ⟨?_, hw b hlt (hb k g o hg ho hlv)⟩
    intro i x y hx hy hny hmem
    rcases gset hx with ⟨rfl, rfl⟩ | ⟨hi, hx'⟩
    · rcases (hbl b hmem).1 with h1 | h1
      · exact hb i g o hg ho hlv h1
      · omega
    · rcases oset hy with ⟨rfl, rfl⟩ | ⟨_, z, hz, rfl⟩
      · exact hi rfl
      · exact hb i x z hx' hz (AO.kill_live.1 hny) hmem
  have tn : Turned k gs (gs.set k g') := by
    refine ⟨fun i x hi hx => ?_, fun x hx => ⟨g', by simp [hkg], fun i v hv => ?_⟩⟩
    · rw [List.getElem?_set, if_neg (fun e => hi e.symm)]; exact hx
    · rw [hg] at hx; cases hx; exact hrows i v hv
  refine ⟨Nat.le_trans h.hb hsz, by simp [h.hl], h.hs, fun i => by rw [Env.lk_mp _ rfl]; exact (h.he i).kill kp tn, ?_, ?_, ?_⟩
  · intro i x y hx hy
    rcases gset hx with ⟨rfl, rfl⟩ | ⟨hi, hx'⟩
    · rcases oset hy with ⟨_, rfl⟩ | ⟨hi, _⟩
      · exact hro kp tn
      · exact absurd rfl hi
    · rcases oset hy with ⟨rfl, rfl⟩ | ⟨_, z, hz, rfl⟩
      · exact absurd rfl hi
      · have hz' := h.ho i x z hx' hz
        have same : z ≠ .dead → ∀ b, b ∈ x.bl → w'.heap[b]? = w.heap[b]? := fun hn b hb =>
          hw b (h.hn i x z hx' hz hn b hb).2 (h.hd i k x g z o hi hx' hg hz ho hn hnd b hb)
        cases z with
        | ob q => exact q.up (fun b hb => same (by simp) b hb) hz'
        | bx T avs =>
          obtain ⟨cs, h1, h2, h3, h4, h5, h6, h7⟩ := hz'
          exact ⟨cs, by rw [same (by simp) x.b (by simp [h3])]; exact h1, h2, h3, h4, by simpa using h5, h6, fun j => by rw [getD_map_kill]; exact (h7 j).kill kp tn⟩
        | keep n K =>
          obtain ⟨h1, h2, h3⟩ := hz'
          have hs : ∀ b, b ∈ x.bl → w'.heap[b]? = K.snap b := fun b hb => by rw [same (by simp) b hb]; exact h1 b hb
          simp only [AO.kill]
          split
          · exact ⟨hs, rfl, fun i x hx => by simp at hx⟩
          · refine ⟨hs, h2, fun i y hy => tn.other i y (fun e => ?_) (h3 i y hy)⟩
            have := (List.getElem?_eq_some_iff.1 hy).1
            omega
        | dead => trivial
        | sli e xs =>
          obtain ⟨h1, h2, h3⟩ := hz'
          exact ⟨ownsRow_of_block h1 fun b hb => same (by simp) b (h3.mem hb), h2, h3⟩
        | slr e avs =>
          obtain ⟨vs, h1, h2, h3, h4⟩ := hz'
          exact ⟨vs, ownsRow_of_block h1 fun b hb => same (by simp) b (h4.mem hb), by simpa using h2, fun j => by rw [getD_map_kill]; exact (h3 j).kill kp tn, h4⟩
        | sls e e2 xss =>
          obtain ⟨vs, bs, mb, h1, h2, h3, h4, h5, h6, h7, h8⟩ := hz'
          refine ⟨vs, bs, mb, ownsRow_of_block h1 fun b hb => same (by simp) b ?_, h2, h3, h4, fun i u hu => ?_, h6, h7, h8⟩
          · rw [h7]
            rcases h6 with ⟨h6, _⟩ | ⟨h6, h6'⟩
            · rw [h6] at hb; cases hb
            · rw [h6] at hb; cases hb; simp [h6']
          · obtain ⟨r1, r2, r3⟩ := h5 i u hu
            refine ⟨ownsRow_of_block r1 fun b hb => same (by simp) b ?_, r2, r3⟩
            rw [h7]
            refine List.mem_append.2 (.inr (List.mem_flatten.2 ⟨bs.getD i [], ?_, by rw [← r3, hb]; simp⟩))
            have hi : i < bs.length := by
              have := (List.getElem?_eq_some_iff.1 hu).1
              omega
            rw [List.getD_eq_getElem?_getD, List.getElem?_eq_getElem hi]
            simp
  · intro i j g1 g2 o1 o2 hij hg1 hg2 ho1 ho2 hn1 hn2 b hb1 hb2
    rcases gset hg1 with ⟨rfl, rfl⟩ | ⟨hi, hg1'⟩
    · rcases gset hg2 with ⟨rfl, _⟩ | ⟨hj, hg2'⟩
      · exact hij rfl
      · rcases oset ho2 with ⟨rfl, _⟩ | ⟨_, z, hz, rfl⟩
        · exact hij rfl
        · have hzn : z ≠ .dead := fun e => hn2 (AO.kill_dead.2 e)
          rcases (hbl b hb1).1 with h1 | h1
          · exact h.hd i j g g2 o z hij hg hg2' ho hz hnd hzn b h1 hb2
          · have := (h.hn j g2 z hg2' hz hzn b hb2).2; omega
    · rcases oset ho1 with ⟨rfl, _⟩ | ⟨_, z, hz, rfl⟩
      · exact absurd rfl hi
      · have hzn : z ≠ .dead := fun e => hn1 (AO.kill_dead.2 e)
        rcases gset hg2 with ⟨rfl, rfl⟩ | ⟨hj, hg2'⟩
        · rcases (hbl b hb2).1 with h1 | h1
          · exact h.hd i j g1 g z o hij hg1' hg hz ho hzn hnd b hb1 h1
          · have := (h.hn i g1 z hg1' hz hzn b hb1).2; omega
        · rcases oset ho2 with ⟨rfl, _⟩ | ⟨_, y, hy, rfl⟩
          · exact absurd rfl hj
          · exact h.hd i j g1 g2 z y hij hg1' hg2' hz hy hzn (fun e => hn2 (AO.kill_dead.2 e)) b hb1 hb2
  · intro i x y hx hy hny b hb
    rcases gset hx with ⟨rfl, rfl⟩ | ⟨hi, hx'⟩
    · have := hbl b hb
      refine ⟨?_, this.2⟩
      rcases this.1 with h1 | h1
      · exact (h.hn i g o hg ho hnd b h1).1
      · exact Nat.le_trans h.hb h1
    · rcases oset hy with ⟨rfl, rfl⟩ | ⟨_, z, hz, rfl⟩
      · exact absurd rfl hi
      · have := h.hn i x z hx' hz (fun e => hny (AO.kill_dead.2 e)) b hb
        exact ⟨this.1, Nat.lt_of_lt_of_le this.2 hsz⟩

/-- Object 'k' is written to: its value stays, its blocks too. -/
theorem Rel.upd (h : Rel base w gs env os tm) {k : Nat} {g : Gh} {o : AO} (hg : gs[k]? = some g) (ho : os[k]? = some o) (hlv : o.live) (o' : AO) (hlv' : o'.live)
    (hw : ∀ b, b < w.heap.size → b ∉ g.bl → w'.heap[b]? = w.heap[b]?) (hsz : w.heap.size ≤ w'.heap.size)
    (hro : Keeps (okOf gs os) (okOf gs os) w w' → RO base w' (okOf gs os) gs g o') : Rel base w' gs env (os.set k o') tm := by
  have hnd := hlv.ne
  have hko : k < os.length := (List.getElem?_eq_some_iff.1 ho).1
  have oset : ∀ {i : Nat} {x : AO}, (os.set k o')[i]? = some x → (i = k ∧ x = o') ∨ (i ≠ k ∧ os[i]? = some x) := by
    intro i x e
    rw [List.getElem?_set] at e
    split at e
    · subst_vars; simp at e; exact .inl ⟨rfl, e.symm⟩
    · exact .inr ⟨fun e' => by simp_all, e⟩
  have eok : okOf gs (os.set k o') = okOf gs os := by
    funext b
    apply propext
    constructor
    · intro hb i x y hx hy hny
      by_cases hi : i = k
      · subst hi
        exact hb i x o' hx (by simp [hko]) hlv'
      · exact hb i x y hx (by rw [List.getElem?_set, if_neg (fun e => hi e.symm)]; exact hy) hny
    · intro hb i x y hx hy hny
      rcases oset hy with ⟨rfl, rfl⟩ | ⟨_, hy'⟩
      · rw [hg] at hx; cases hx
        exact hb i g o hg ho hlv
      · exact hb i x y hx hy' hny
  have kp : Keeps (okOf gs os) (okOf gs os) w w' := fun b hb hlt => ⟨hb, hw b hlt (hb k g o hg ho hlv)⟩
  refine ⟨Nat.le_trans h.hb hsz, by simp [h.hl], h.hs, fun i => by rw [eok]; exact (h.he i).mono kp (fun _ _ e => e), ?_, ?_, ?_⟩
  · intro i x y hx hy
    rw [eok]
    rcases oset hy with ⟨rfl, rfl⟩ | ⟨hi, hy'⟩
    · rw [hg] at hx; cases hx; exact hro kp
    · exact (h.ho i x y hx hy').mono kp (fun _ _ e => e) fun hn b hb => hw b (h.hn i x y hx hy' hn b hb).2 (h.hd i k x g y o hi hx hg hy' ho hn hnd b hb)
  · intro i j g1 g2 o1 o2 hij hg1 hg2 ho1 ho2 hn1 hn2
    have f : ∀ {i : Nat} {x : AO}, (os.set k o')[i]? = some x → x ≠ .dead → ∃ y, os[i]? = some y ∧ y ≠ .dead := by
      intro i x e hx
      rcases oset e with ⟨rfl, rfl⟩ | ⟨_, e'⟩
      · exact ⟨o, ho, hnd⟩
      · exact ⟨x, e', hx⟩
    obtain ⟨y1, hy1, hy1n⟩ := f ho1 hn1
    obtain ⟨y2, hy2, hy2n⟩ := f ho2 hn2
    exact h.hd i j g1 g2 y1 y2 hij hg1 hg2 hy1 hy2 hy1n hy2n
  · intro i x y hx hy hny b hb
    have : ∃ y, os[i]? = some y ∧ y ≠ .dead := by
      rcases oset hy with ⟨rfl, rfl⟩ | ⟨_, e'⟩
      · exact ⟨o, ho, hnd⟩
      · exact ⟨y, e', hny⟩
    obtain ⟨z, hz, hzn⟩ := this
    have := h.hn i x z hx hz hzn b hb
    exact ⟨this.1, Nat.lt_of_lt_of_le this.2 hsz⟩
end

/-! ### What is forgotten -/

/-- References to handles from 'n' on are forgotten. -/
def AV.lim1 (n : Nat) : AV → AV
  | .own k => if k < n then .own k else .any
  | .optr k i => if k < n then .optr k i else .any
  | .osub k a b => if k < n then .osub k a b else .any
  | .orow k i => if k < n then .orow k i else .any
  | .orptr k i j => if k < n then .orptr k i j else .any
  | .agg _ => .any
  | .tup _ => .any
  | a => a
def AV.lim (n : Nat) : AV → AV
  | .own k => if k < n then .own k else .any
  | .optr k i => if k < n then .optr k i else .any
  | .osub k a b => if k < n then .osub k a b else .any
  | .orow k i => if k < n then .orow k i else .any
  | .orptr k i j => if k < n then .orptr k i j else .any
  | .agg l => .agg (l.map (AV.lim1 n))
  | .tup l => .tup (l.map (AV.lim1 n))
  | a => a
def AO.lim (n : Nat) : AO → AO
  | .bx T avs => .bx T (avs.map (AV.lim n))
  | .slr e avs => .slr e (avs.map (AV.lim n))
  | .keep m K => if m ≤ n then .keep m K else .keep 0 ⟨K.snap, []⟩
  | o => o

theorem getD_map_lim1 (n : Nat) (l : List AV) (i : Nat) : (l.map (AV.lim1 n)).getD i .any = (l.getD i .any).lim1 n := by
  simp only [List.getD_eq_getElem?_getD, List.getElem?_map]
  cases l[i]? <;> rfl
theorem getD_map_lim (n : Nat) (l : List AV) (i : Nat) : (l.map (AV.lim n)).getD i .any = (l.getD i .any).lim n := by
  simp only [List.getD_eq_getElem?_getD, List.getElem?_map]
  cases l[i]? <;> rfl

section
variable {w : World} {ok ok' : Nat → Prop} {gs : List Gh}
theorem getElem?_take_lt {α : Type} {l : List α} {n k : Nat} {x : α} (h : l[k]? = some x) (hk : k < n) : (l.take n)[k]? = some x := by
  rw [List.getElem?_take, if_pos hk]; exact h

theorem RV.lim1 (n : Nat) (k : Keeps ok ok' w w) {v : Value} {a : AV} (hv : RV w ok gs v a) : RV w ok' (gs.take n) v (a.lim1 n) := by
  cases hv with
  | any v => exact .any v
  | val v => exact .val v
  | ints h => exact .ints (h.mono k)
  | intss h => exact .intss (h.mono k)
  | @ro v r h => exact .ro (r.up k h)
  | iptr h h1 h2 => exact .iptr (h.mono k) h1 h2
  | iiptr h h1 h2 => exact .iiptr (h.mono k) h1 h2
  | own h1 => simp only [AV.lim1]; split <;> first | exact .any _ | exact .own (getElem?_take_lt h1 ‹_›)
  | optr h1 => simp only [AV.lim1]; split <;> first | exact .any _ | exact .optr (getElem?_take_lt h1 ‹_›)
  | osub h1 h2 h3 h4 => simp only [AV.lim1]; split <;> first | exact .any _ | exact .osub (getElem?_take_lt h1 ‹_›) h2 h3 h4
  | orow h1 h2 => simp only [AV.lim1]; split <;> first | exact .any _ | exact .orow (getElem?_take_lt h1 ‹_›) h2
  | orptr h1 h2 => simp only [AV.lim1]; split <;> first | exact .any _ | exact .orptr (getElem?_take_lt h1 ‹_›) h2
  | agg _ _ _ => exact .any _
  | tup _ _ => exact .any _

theorem RV.lim (n : Nat) (k : Keeps ok ok' w w) {v : Value} {a : AV} (hv : RV w ok gs v a) : RV w ok' (gs.take n) v (a.lim n) := by
  cases hv with
  | any v => exact .any v
  | val v => exact .val v
  | ints h => exact .ints (h.mono k)
  | intss h => exact .intss (h.mono k)
  | @ro v r h => exact .ro (r.up k h)
  | iptr h h1 h2 => exact .iptr (h.mono k) h1 h2
  | iiptr h h1 h2 => exact .iiptr (h.mono k) h1 h2
  | own h1 => simp only [AV.lim]; split <;> first | exact .any _ | exact .own (getElem?_take_lt h1 ‹_›)
  | optr h1 => simp only [AV.lim]; split <;> first | exact .any _ | exact .optr (getElem?_take_lt h1 ‹_›)
  | osub h1 h2 h3 h4 => simp only [AV.lim]; split <;> first | exact .any _ | exact .osub (getElem?_take_lt h1 ‹_›) h2 h3 h4
  | orow h1 h2 => simp only [AV.lim]; split <;> first | exact .any _ | exact .orow (getElem?_take_lt h1 ‹_›) h2
  | orptr h1 h2 => simp only [AV.lim]; split <;> first | exact .any _ | exact .orptr (getElem?_take_lt h1 ‹_›) h2
  | agg h1 h3 h2 => exact .agg (by simpa using h1) h3 fun i => by rw [getD_map_lim1]; exact (h2 i).lim1 n k
  | tup h1 h2 => exact .tup (by simpa using h1) fun i => by rw [getD_map_lim1]; exact (h2 i).lim1 n k
end

/-- The state (env, os) may be seen as (env', os'): slots and objects are forgotten. -/
def LeM (e : Env) : List (Nat × AV) → Prop
  | [] => True
  | p :: t => e.fd p.1 = some p.2 ∧ LeM e t
def LeE (e e' : Env) : Prop := e'.n = e.n ∧ LeM e e'.m
/-- What is said of 'a' gives what is said of 'b'. -/
def AO.le (a b : AO) : Prop := a = b ∨ ∃ q q' : Ob, a = .ob q ∧ b = .ob q' ∧ ∀ base w g, q.p base w g → q'.p base w g
theorem AO.le.live {a b : AO} (h : a.le b) (hb : b.live) : a.live := by
  rcases h with rfl | ⟨q, q', rfl, rfl, _⟩
  · exact hb
  · trivial
theorem AO.le.ne {a b : AO} (h : a.le b) (hb : b ≠ .dead) : a ≠ .dead := by
  rcases h with rfl | ⟨q, q', rfl, rfl, _⟩
  · exact hb
  · simp
def LeO : List AO → List AO → Prop
  | _, [] => True
  | [], _ :: _ => False
  | a :: as0, b :: bs => (b = .dead ∨ a.le b) ∧ LeO as0 bs

structure Fit (env : Env) (os : List AO) (env' : Env) (os' : List AO) : Prop where
  e : LeE env env'
  o : LeO os os'
  le : env'.mp (AV.lim os'.length) = env'
  lo : os'.map (AO.lim os'.length) = os'

theorem LeM.get {e : Env} : ∀ {m : List (Nat × AV)}, LeM e m → ∀ k a, fdm m k = some a → e.fd k = some a
  | [], _, k, a, h => by cases h
  | (d, r) :: t, h, k, a, hk => by
    obtain ⟨h1, h2⟩ := h
    simp only [fdm] at hk
    cases hb : Nat.beq d k with
    | true =>
      rw [hb] at hk
      have := Nat.eq_of_beq_eq_true hb
      subst this
      simp only [cond_true, Option.some.injEq] at hk
      subst hk
      exact h1
    | false => rw [hb] at hk; exact LeM.get h2 k a hk
theorem LeE.get {e e' : Env} (h : LeE e e') : e'.n ≤ e.n ∧ ∀ i : Nat, e'.lk i = .any ∨ e.lk i = e'.lk i := by
  refine ⟨by rw [h.1]; exact Nat.le_refl _, fun i => ?_⟩
  cases hf : e'.fd i with
  | none => left; simp [Env.lk, hf]
  | some a =>
    right
    have hf' := hf
    simp only [Env.fd] at hf
    cases hb : Nat.blt i e'.n with
    | false => rw [hb] at hf; cases hf
    | true => rw [hb] at hf; rw [Env.lk_of hf', Env.lk_of (h.2.get i a hf)]

theorem LeO.get : ∀ {a b : List AO}, LeO a b → b.length ≤ a.length ∧ ∀ (i : Nat) y, b[i]? = some y → y = .dead ∨ ∃ x, a[i]? = some x ∧ x.le y
  | _, [], _ => ⟨by simp, fun i y h => by simp at h⟩
  | [], _ :: _, h => h.elim
  | a :: as0, b :: bs, h => by
    obtain ⟨h1, h2⟩ := h
    have ih := LeO.get h2
    refine ⟨by simpa using ih.1, fun i y hy => ?_⟩
    cases i with
    | zero => simp at hy ⊢; subst hy; exact h1
    | succ i => simpa using ih.2 i y (by simpa using hy)

theorem LeO.refl : ∀ a : List AO, LeO a a
  | [] => trivial
  | _ :: as0 => ⟨.inr (.inl rfl), LeO.refl as0⟩

theorem Rel.fit {base : Nat} {w : World} {gs : List Gh} {env env' : Env} {os os' : List AO} {tm : Array Value} (h : Rel base w gs env os tm) (f : Fit env os env' os') :
    ∃ gs', Rel base w gs' env' os' tm := by
  have fe := f.e.get
  have fo := f.o.get
  have hgl : os'.length ≤ gs.length := by rw [h.hl]; exact fo.1
  have back : ∀ {i : Nat} {x : Gh} {y : AO}, (gs.take os'.length)[i]? = some x → os'[i]? = some y → gs[i]? = some x ∧ (y = .dead ∨ ∃ z, os[i]? = some z ∧ z.le y) := by
    intro i x y hx hy
    have hi := (List.getElem?_eq_some_iff.1 hy).1
    rw [List.getElem?_take, if_pos hi] at hx
    exact ⟨hx, fo.2 i y hy⟩
  have kp : Keeps (okOf gs os) (okOf (gs.take os'.length) os') w w := by
    intro b hb _
    refine ⟨fun i x y hx hy hny hmem => ?_, rfl⟩
    obtain ⟨h1, h2⟩ := back hx hy
    rcases h2 with rfl | ⟨z, h2, hle⟩
    · exact hny.elim
    · exact hb i x z h1 h2 (hle.live hny) hmem
  refine ⟨gs.take os'.length, h.hb, by simp; omega, Nat.le_trans fe.1 h.hs, fun i => ?_, ?_, ?_, ?_⟩
  · rcases fe.2 i with e | e
    · rw [e]; exact .any _
    · have := (h.he i).lim os'.length kp
      rw [e] at this
      have e2 : (env'.lk i).lim os'.length = env'.lk i := by rw [← Env.lk_mp (AV.lim os'.length) rfl, f.le]
      rwa [e2] at this
  · intro i x y hx hy
    obtain ⟨h1, h2⟩ := back hx hy
    rcases h2 with rfl | ⟨z, h2, rfl | ⟨q, q', rfl, rfl, himp⟩⟩
    · trivial
    rotate_left 1
    · exact himp _ _ _ (h.ho i x _ h1 h2)
    · have hz := h.ho i x z h1 h2
      have e2 : z.lim os'.length = z := by
        have := congrArg (·[i]?) f.lo
        simp only [List.getElem?_map, hy, Option.map_some, Option.some.injEq] at this
        exact this
      cases z with
      | dead => trivial
      | ob q => exact hz
      | sli e xs => exact hz
      | slr e avs =>
        obtain ⟨vs, h1, h2, h3, h4⟩ := hz
        refine ⟨vs, h1, h2, fun j => ?_, h4⟩
        have := (h3 j).lim os'.length kp
        have e3 : (avs.getD j .any).lim os'.length = avs.getD j .any := by
          have : avs.map (AV.lim os'.length) = avs := by simpa [AO.lim] using e2
          rw [← getD_map_lim, this]
        rwa [e3] at this
      | sls e e2 xss => exact hz
      | bx T avs =>
        obtain ⟨cs, h1, h2, h3, h4, h5, h6, h7⟩ := hz
        refine ⟨cs, h1, h2, h3, h4, h5, h6, fun j => ?_⟩
        have := (h7 j).lim os'.length kp
        have e3 : (avs.getD j .any).lim os'.length = avs.getD j .any := by
          have : avs.map (AV.lim os'.length) = avs := by simpa [AO.lim] using e2
          rw [← getD_map_lim, this]
        rwa [e3] at this
      | keep m K =>
        obtain ⟨h1, h2, h3⟩ := hz
        refine ⟨h1, h2, fun i z' hi => ?_⟩
        have hlt := (List.getElem?_eq_some_iff.1 hi).1
        have hm : m ≤ os'.length := by
          simp only [AO.lim] at e2
          split at e2
          · assumption
          · simp only [AO.keep.injEq] at e2
            omega
        exact getElem?_take_lt (h3 i z' hi) (by omega)
  · intro i j g1 g2 o1 o2 hij hg1 hg2 ho1 ho2 hn1 hn2
    obtain ⟨a1, a2⟩ := back hg1 ho1
    obtain ⟨b1, b2⟩ := back hg2 ho2
    obtain ⟨z1, c1, l1⟩ := a2.resolve_left hn1
    obtain ⟨z2, c2, l2⟩ := b2.resolve_left hn2
    exact h.hd i j g1 g2 z1 z2 hij a1 b1 c1 c2 (l1.ne hn1) (l2.ne hn2)
  · intro i x y hx hy hny
    obtain ⟨h1, h2⟩ := back hx hy
    obtain ⟨z, c, l⟩ := h2.resolve_left hny
    exact h.hn i x z h1 c (l.ne hny)

/-! ### Handles get other numbers -/
def ixOf : List Nat → Nat → Option Nat
  | [], _ => none
  | s :: t, h => cond (Nat.beq s h) (some 0) ((ixOf t h).map (· + 1))
def AV.ren1 (σ : List Nat) : AV → AV
  | .own k => match ixOf σ k with | some j => .own j | none => .any
  | .optr k i => match ixOf σ k with | some j => .optr j i | none => .any
  | .osub k a b => match ixOf σ k with | some j => .osub j a b | none => .any
  | .orow k i => match ixOf σ k with | some j => .orow j i | none => .any
  | .orptr k i n => match ixOf σ k with | some j => .orptr j i n | none => .any
  | .agg _ => .any
  | .tup _ => .any
  | a => a
def AV.ren (σ : List Nat) : AV → AV
  | .own k => match ixOf σ k with | some j => .own j | none => .any
  | .optr k i => match ixOf σ k with | some j => .optr j i | none => .any
  | .osub k a b => match ixOf σ k with | some j => .osub j a b | none => .any
  | .orow k i => match ixOf σ k with | some j => .orow j i | none => .any
  | .orptr k i n => match ixOf σ k with | some j => .orptr j i n | none => .any
  | .agg l => .agg (l.map (AV.ren1 σ))
  | .tup l => .tup (l.map (AV.ren1 σ))
  | a => a
def AO.ren (σ : List Nat) : AO → AO
  | .bx T avs => .bx T (avs.map (AV.ren σ))
  | .slr e avs => .slr e (avs.map (AV.ren σ))
  | .keep n K => if n ≤ σ.length ∧ σ.take n = List.range n then .keep n K else .keep 0 ⟨K.snap, []⟩
  | o => o
/-- The objects that σ names, in its order. -/
def selO (σ : List Nat) (os : List AO) : List AO := σ.map fun h => (os.getD h .dead).ren σ
def okSel (σ : List Nat) (n : Nat) : Prop := σ.Nodup ∧ ∀ h ∈ σ, h < n

theorem ixOf_some : ∀ {σ : List Nat} {h j : Nat}, ixOf σ h = some j → σ[j]? = some h
  | [], _, _, e => by cases e
  | s :: t, h, j, e => by
    simp only [ixOf] at e
    cases hb : Nat.beq s h with
    | true => rw [hb] at e; simp at e; subst e; simp [Nat.eq_of_beq_eq_true hb]
    | false =>
      rw [hb] at e
      simp only [cond_false, Option.map_eq_some_iff] at e
      obtain ⟨i, hi, rfl⟩ := e
      simpa using ixOf_some hi

section
variable {w : World} {ok ok' : Nat → Prop} {gs : List Gh}
theorem get_sel {σ : List Nat} (g0 : Gh) {h j : Nat} {g : Gh} (hx : ixOf σ h = some j) (hg : gs[h]? = some g) : (σ.map fun k => gs.getD k g0)[j]? = some g := by
  have := ixOf_some hx
  simp [List.getElem?_map, this, hg]
theorem RV.ren1 (σ : List Nat) (g0 : Gh) (k : Keeps ok ok' w w) {v : Value} {a : AV} (hv : RV w ok gs v a) : RV w ok' (σ.map fun k => gs.getD k g0) v (a.ren1 σ) := by
  cases hv with
  | any v => exact .any v
  | val v => exact .val v
  | ints h => exact .ints (h.mono k)
  | intss h => exact .intss (h.mono k)
  | @ro v r h => exact .ro (r.up k h)
  | iptr h h1 h2 => exact .iptr (h.mono k) h1 h2
  | iiptr h h1 h2 => exact .iiptr (h.mono k) h1 h2
  | own h1 => simp only [AV.ren1]; split <;> first | exact .any _ | exact .own (get_sel g0 ‹_› h1)
  | optr h1 => simp only [AV.ren1]; split <;> first | exact .any _ | exact .optr (get_sel g0 ‹_› h1)
  | osub h1 h2 h3 h4 => simp only [AV.ren1]; split <;> first | exact .any _ | exact .osub (get_sel g0 ‹_› h1) h2 h3 h4
  | orow h1 h2 => simp only [AV.ren1]; split <;> first | exact .any _ | exact .orow (get_sel g0 ‹_› h1) h2
  | orptr h1 h2 => simp only [AV.ren1]; split <;> first | exact .any _ | exact .orptr (get_sel g0 ‹_› h1) h2
  | agg _ _ _ => exact .any _
  | tup _ _ => exact .any _
theorem getD_map_f (f : AV → AV) (hf : f .any = .any) (l : List AV) (i : Nat) : (l.map f).getD i .any = f (l.getD i .any) := by
  simp only [List.getD_eq_getElem?_getD, List.getElem?_map]
  cases l[i]? <;> simp [hf]
theorem RV.ren (σ : List Nat) (g0 : Gh) (k : Keeps ok ok' w w) {v : Value} {a : AV} (hv : RV w ok gs v a) : RV w ok' (σ.map fun k => gs.getD k g0) v (a.ren σ) := by
  cases hv with
  | any v => exact .any v
  | val v => exact .val v
  | ints h => exact .ints (h.mono k)
  | intss h => exact .intss (h.mono k)
  | @ro v r h => exact .ro (r.up k h)
  | iptr h h1 h2 => exact .iptr (h.mono k) h1 h2
  | iiptr h h1 h2 => exact .iiptr (h.mono k) h1 h2
  | own h1 => simp only [AV.ren]; split <;> first | exact .any _ | exact .own (get_sel g0 ‹_› h1)
  | optr h1 => simp only [AV.ren]; split <;> first | exact .any _ | exact .optr (get_sel g0 ‹_› h1)
  | osub h1 h2 h3 h4 => simp only [AV.ren]; split <;> first | exact .any _ | exact .osub (get_sel g0 ‹_› h1) h2 h3 h4
  | orow h1 h2 => simp only [AV.ren]; split <;> first | exact .any _ | exact .orow (get_sel g0 ‹_› h1) h2
  | orptr h1 h2 => simp only [AV.ren]; split <;> first | exact .any _ | exact .orptr (get_sel g0 ‹_› h1) h2
  | agg h1 h3 h2 => exact .agg (by simpa using h1) h3 fun i => by rw [getD_map_f _ rfl]; exact (h2 i).ren1 σ g0 k
  | tup h1 h2 => exact .tup (by simpa using h1) fun i => by rw [getD_map_f _ rfl]; exact (h2 i).ren1 σ g0 k
end

theorem Rel.sel {base : Nat} {w : World} {gs : List Gh} {env : Env} {os : List AO} {tm : Array Value} (h : Rel base w gs env os tm) (σ : List Nat) (hσ : okSel σ os.length) :
    ∃ gs', Rel base w gs' (env.mp (AV.ren σ)) (selO σ os) tm := by
  obtain ⟨hnd, hlt⟩ := hσ
  let g0 : Gh := ⟨undef, 0, [], []⟩
  have hl := h.hl
  -- where an object of the selection comes from
  have back : ∀ {i : Nat} {x : Gh} {y : AO}, (σ.map fun k => gs.getD k g0)[i]? = some x → (selO σ os)[i]? = some y → ∃ k z, σ[i]? = some k ∧ gs[k]? = some x ∧ os[k]? = some z ∧ y = z.ren σ := by
    intro i x y hx hy
    simp only [selO, List.getElem?_map] at hx hy
    cases hk : σ[i]? with
    | none => rw [hk] at hx; cases hx
    | some k =>
      have hkl := hlt k (List.mem_of_getElem? hk)
      rw [hk] at hx hy
      have e1 : gs[k]? = some gs[k] := List.getElem?_eq_getElem (by omega)
      have e2 : os[k]? = some os[k] := List.getElem?_eq_getElem hkl
      simp [e1] at hx
      simp [e2] at hy
      exact ⟨k, os[k], rfl, by rw [e1, hx], e2, hy.symm⟩
  have live : ∀ {z : AO}, (z.ren σ).live → z.live := by
    intro z hz
    cases z with
    | keep n K => simp only [AO.ren] at hz; split at hz <;> exact hz
    | dead => exact hz
    | _ => trivial
  have dead : ∀ {z : AO}, z.ren σ ≠ .dead → z ≠ .dead := by
    intro z hz e
    subst e
    exact hz rfl
  have kp : Keeps (okOf gs os) (okOf (σ.map fun k => gs.getD k g0) (selO σ os)) w w := by
    intro b hb _
    refine ⟨fun i x y hx hy hny hmem => ?_, rfl⟩
    obtain ⟨k, z, _, h1, h2, rfl⟩ := back hx hy
    exact hb k x z h1 h2 (live hny) hmem
  refine ⟨σ.map fun k => gs.getD k g0, h.hb, by simp [selO], h.hs, fun i => by rw [Env.lk_mp _ rfl]; exact (h.he i).ren σ g0 kp, ?_, ?_, ?_⟩
  · intro i x y hx hy
    obtain ⟨k, z, hk, h1, h2, rfl⟩ := back hx hy
    have hz := h.ho k x z h1 h2
    cases z with
    | dead => trivial
    | ob q => exact hz
    | sli e xs => exact hz
    | slr e avs =>
      obtain ⟨vs, a1, a2, a3, a4⟩ := hz
      exact ⟨vs, a1, by simpa using a2, fun j => by rw [getD_map_f _ rfl]; exact (a3 j).ren σ g0 kp, a4⟩
    | sls e e2 xss => exact hz
    | bx T avs =>
      obtain ⟨cs, a1, a2, a3, a4, a5, a6, a7⟩ := hz
      exact ⟨cs, a1, a2, a3, a4, by simpa using a5, a6, fun j => by rw [getD_map_f _ rfl]; exact (a7 j).ren σ g0 kp⟩
    | keep n K =>
      obtain ⟨a1, a2, a3⟩ := hz
      simp only [AO.ren]
      split
      · rename_i hc
        refine ⟨a1, a2, fun j g hg => ?_⟩
        have hj := (List.getElem?_eq_some_iff.1 hg).1
        have hg' := a3 j g hg
        have hσj : σ[j]? = some j := by
          have e : (σ.take n)[j]? = (List.range n)[j]? := by rw [hc.2]
          rw [List.getElem?_take, if_pos (by omega)] at e
          rw [e, List.getElem?_eq_getElem (by rw [List.length_range]; omega), List.getElem_range]
        simp [List.getElem?_map, hσj, hg']
      · exact ⟨a1, rfl, fun j g hg => by simp at hg⟩
  · intro i j g1 g2 o1 o2 hij hg1 hg2 ho1 ho2 hn1 hn2
    obtain ⟨k1, z1, e1, a1, b1, rfl⟩ := back hg1 ho1
    obtain ⟨k2, z2, e2, a2, b2, rfl⟩ := back hg2 ho2
    refine h.hd k1 k2 g1 g2 z1 z2 (fun e => hij ?_) a1 a2 b1 b2 (dead hn1) (dead hn2)
    subst e
    have l1 := (List.getElem?_eq_some_iff.1 e1).1
    exact (List.getElem?_inj l1 hnd).1 (e1.trans e2.symm)
  · intro i x y hx hy hny
    obtain ⟨k, z, _, h1, h2, rfl⟩ := back hx hy
    exact h.hn k x z h1 h2 (dead hny)

/-- Handles are numbered anew, then slots and objects are forgotten. -/
def FitS (σ : List Nat) (env : Env) (os : List AO) (env' : Env) (os' : List AO) : Prop := okSel σ os.length ∧ Fit (env.mp (AV.ren σ)) (selO σ os) env' os'
theorem Rel.fits {base : Nat} {w : World} {gs : List Gh} {env env' : Env} {os os' : List AO} {tm : Array Value} {σ : List Nat} (h : Rel base w gs env os tm) (f : FitS σ env os env' os') :
    ∃ gs', Rel base w gs' env' os' tm :=
  let ⟨_, h1⟩ := h.sel σ f.1
  h1.fit f.2

end Go.Proofs.Ytlkhcelodcneiaa
/-
  The rules of the abstract machine: control, regions (in the text's order, or drawn), quiet operations, calls. No condition.
-/
namespace Go.Proofs.Ytlkhcelodcneiaa
open Go Go.RowKit

abbrev APost := Env → List AO → Prop

def Post (base : Nat) (w0 : World) (N : APost) (X : Nat → APost) (Rt : APost) : Exit → Act → World → Prop
  | .normal, a, w => ∃ env os gs, Rel base w gs env os a.tmps ∧ a.defers = [] ∧ Below base w0 w ∧ N env os
  | .exit j, a, w => ∃ env os gs, Rel base w gs env os a.tmps ∧ a.defers = [] ∧ Below base w0 w ∧ X j env os
  | .ret, a, w => ∃ env os gs, Rel base w gs env os a.tmps ∧ a.defers = [] ∧ Below base w0 w ∧ Rt env os
  | _, _, _ => False

def AWp (P : Program) (c : Code) (N : APost) (X : Nat → APost) (Rt : APost) (env : Env) (os : List AO) : Prop :=
  ∀ base w0 w gs tm, Rel base w gs env os tm → Below base w0 w → c.wp P (Post base w0 N X Rt) ⟨tm, []⟩ w

section control
variable {P : Program} {N : APost} {X : Nat → APost} {Rt : APost} {env : Env} {os : List AO}

theorem AWp.seq {x y : Code} (h : AWp P x (fun env os => AWp P y N X Rt env os) X Rt env os) : AWp P (.seq x y) N X Rt env os := by
  intro base w0 w gs tm hr hb
  refine wp_seq (wp_mono (h base w0 w gs tm hr hb) ?_)
  intro e a w' hq
  cases e with
  | normal =>
    obtain ⟨env', os', gs', hr', hd, hb', hn⟩ := hq
    have := hn base w0 w' gs' a.tmps hr' hb'
    have ea : a = ⟨a.tmps, []⟩ := by cases a; simp_all
    rw [ea]; exact this
  | exit id => exact hq
  | goto l => exact hq
  | ret => exact hq
  | panic ch => exact hq
  | outgrown => exact hq

theorem AWp.skip (h : N env os) : AWp P .skip N X Rt env os :=
  fun _ _ _ gs _ hr hb => wp_skip ⟨env, os, gs, hr, rfl, hb, h⟩
theorem AWp.exit {j : Nat} (h : X j env os) : AWp P (.exit j) N X Rt env os :=
  fun _ _ _ gs _ hr hb => wp_exit ⟨env, os, gs, hr, rfl, hb, h⟩
theorem AWp.ret (h : Rt env os) : AWp P .ret N X Rt env os :=
  fun _ _ _ gs _ hr hb => wp_ret ⟨env, os, gs, hr, rfl, hb, h⟩

theorem AWp.block {id : Nat} {c : Code} (h : AWp P c N (fun j env os => if j = id then N env os else X j env os) Rt env os) : AWp P (.block id c) N X Rt env os := by
  intro base w0 w gs tm hr hb
  refine wp_block (wp_mono (h base w0 w gs tm hr hb) ?_)
  intro e a w' hq
  cases e with
  | normal => exact hq
  | exit j =>
    obtain ⟨env', os', gs', hr', hd, hb', hn⟩ := hq
    show if j = id then _ else _
    by_cases e : j = id
    · simp only [e, if_true] at hn ⊢; exact ⟨env', os', gs', hr', hd, hb', hn⟩
    · simp only [e, if_false] at hn ⊢; exact ⟨env', os', gs', hr', hd, hb', hn⟩
  | goto l => exact hq
  | ret => exact hq
  | panic ch => exact hq
  | outgrown => exact hq

/-- An operand's abstract value. -/
def AV.ev (env : Env) : Operand → AV
  | .tmp t => env.lk t
  | .const v => .val v
  | .global _ => .any
  | .func f => .val (.func (.func f) #[] #[])

theorem Rel.ev {base : Nat} {w : World} {gs : List Gh} {tm : Array Value} (h : Rel base w gs env os tm) (x : Operand) : RV w (okOf gs os) gs (Act.eval ⟨tm, []⟩ x) (AV.ev env x) := by
  cases x with
  | tmp t => exact h.he t
  | const v => exact .val v
  | global g => exact .any _
  | func f => exact .val _

theorem RV.val_eq {w : World} {ok : Nat → Prop} {gs : List Gh} {v u : Value} {a : AV} (h : RV w ok gs v a) (e : a = .val u) : v = u := by
  subst e; cases h; rfl

theorem Rel.evv {base : Nat} {w : World} {gs : List Gh} {tm : Array Value} (h : Rel base w gs env os tm) {x : Operand} {v : Value} (e : AV.ev env x = .val v) : Act.eval ⟨tm, []⟩ x = v :=
  (h.ev x).val_eq e

theorem AWp.cond {c : Operand} {b : Bool} {x y : Code} (hc : AV.ev env c = .val (.bool b)) (ht : b = true → AWp P x N X Rt env os) (hf : b = false → AWp P y N X Rt env os) :
    AWp P (.cond c x y) N X Rt env os := by
  intro base w0 w gs tm hr hb
  have he := hr.evv hc
  cases b
  · exact wp_cond he (by simpa using hf rfl base w0 w gs tm hr hb)
  · exact wp_cond he (by simpa using ht rfl base w0 w gs tm hr hb)

theorem AWp.mono {c : Code} {N' : APost} {X' : Nat → APost} {Rt' : APost} (h : AWp P c N X Rt env os) (hn : ∀ e o, N e o → N' e o) (hx : ∀ j e o, X j e o → X' j e o) (hrt : ∀ e o, Rt e o → Rt' e o) :
    AWp P c N' X' Rt' env os := by
  intro base w0 w gs tm hr hb
  refine wp_mono (h base w0 w gs tm hr hb) ?_
  intro e a w' hq
  cases e with
  | normal => obtain ⟨env', os', gs', a1, a2, a3, a4⟩ := hq; exact ⟨env', os', gs', a1, a2, a3, hn _ _ a4⟩
  | exit j => obtain ⟨env', os', gs', a1, a2, a3, a4⟩ := hq; exact ⟨env', os', gs', a1, a2, a3, hx _ _ _ a4⟩
  | ret => obtain ⟨env', os', gs', a1, a2, a3, a4⟩ := hq; exact ⟨env', os', gs', a1, a2, a3, hrt _ _ a4⟩
  | goto l => exact hq
  | panic ch => exact hq
  | outgrown => exact hq

theorem AWp.fit {c : Code} {env' : Env} {os' : List AO} (f : Fit env os env' os') (h : AWp P c N X Rt env' os') : AWp P c N X Rt env os := by
  intro base w0 w gs tm hr hb
  obtain ⟨gs', hr'⟩ := hr.fit f
  exact h base w0 w gs' tm hr' hb

/-- A LOOP: 'I x' is the state at a round's head, 'φ x' what is known there, 'μ' goes down. -/
theorem AWp.loop {c : Code} {ι : Type} (E : ι → Env) (O : ι → List AO) (φ : ι → Prop) (μ : ι → Nat) (x0 : ι) (h0 : φ x0) (f0 : Fit env os (E x0) (O x0))
    (round : ∀ x, φ x → AWp P c (fun env' os' => ∃ y, φ y ∧ μ y < μ x ∧ Fit env' os' (E y) (O y)) X Rt (E x) (O x)) : AWp P (.loop c) N X Rt env os := by
  intro base w0 w gs tm hr hb
  obtain ⟨gs0, hr0⟩ := hr.fit f0
  refine wp_loop_ghost (fun n a w' => ∃ x gs', φ x ∧ μ x = n ∧ Rel base w' gs' (E x) (O x) a.tmps ∧ a.defers = [] ∧ Below base w0 w') (μ x0) ⟨x0, gs0, h0, rfl, hr0, rfl, hb⟩ ?_
  rintro n a w1 ⟨x, gs1, hφ, rfl, hr1, hd, hb1⟩
  have ea : a = ⟨a.tmps, []⟩ := by cases a; simp_all
  rw [ea]
  refine wp_mono (round x hφ base w0 w1 gs1 a.tmps hr1 hb1) ?_
  intro e a' w' hq
  cases e with
  | normal =>
    obtain ⟨env', os', gs', r1, r2, r3, y, hy, hlt, hf⟩ := hq
    obtain ⟨gs2, hr2⟩ := r1.fit hf
    exact ⟨μ y, hlt, y, gs2, hy, rfl, hr2, r2, r3⟩
  | exit j => exact hq
  | ret => exact hq
  | goto l => exact hq
  | panic ch => exact hq
  | outgrown => exact hq
end control

/-! ### Regions -/

/-- How a region's operations are walked: one after the other; quiet, in the class of the worlds that are as this one was; worldless: in whatever world. -/
inductive Md where
  | seq
  | quiet
  | wless
def Md.wl : Md → Bool
  | .wless => true
  | _ => false

/-- Worldless operations, in the text's order. -/
def wpW (P : Program) (ops : Array Oper) (Q : Act → Prop) : List Oper → Act → Prop
  | [], a => Q a
  | o :: rest, a => ∃ v, Yields P ops o v a ∧ wpW P ops Q rest (a.put o.dst v)

/-- The operations 'rest' of the region 'l', in the text's order. -/
def AOps (P : Program) (q : Md) (l rest : List Oper) (K : APost) (env : Env) (os : List AO) : Prop :=
  match q with
  | .seq => ∀ base w0 w gs tm, Rel base w gs env os tm → Below base w0 w → ∀ X Rt, wpList P l.toArray (Post base w0 K X Rt) rest ⟨tm, []⟩ w
  | .quiet => ∀ base w gs tm, Rel base w gs env os tm →
    wpQuiet P l.toArray (fun w' => Below w.heap.size w w') (fun a' => ∃ env' os' gs', K env' os' ∧ a'.defers = [] ∧ ∀ w', Below w.heap.size w w' → Rel base w' gs' env' os' a'.tmps) rest ⟨tm, []⟩
  | .wless => ∀ base w gs tm, Rel base w gs env os tm →
    wpW P l.toArray (fun a' => ∃ env' os' gs', K env' os' ∧ a'.defers = [] ∧ Rel base w gs' env' os' a'.tmps) rest ⟨tm, []⟩

section regions
variable {P : Program} {N : APost} {X : Nat → APost} {Rt : APost} {env : Env} {os : List AO} {l rest : List Oper} {K : APost} {q : Md}

theorem AWp.region {id : Nat} (h : AOps P .seq l l N env os) : AWp P (.region id l.toArray false) N X Rt env os := by
  intro base w0 w gs tm hr hb
  exact wp_region_lit (h base w0 w gs tm hr hb X Rt)

theorem AWp.regionQ {id : Nat} (hm : P.follows .mixedOrders = true) (hB : Region.lexB .any l.toArray = true) (h : AOps P .quiet l l N env os) : AWp P (.region id l.toArray true) N X Rt env os := by
  intro base w0 w gs tm hr hb
  have hbel : Below w.heap.size w { w with drawn := w.drawn + 1 } := (Below.refl _ _).drew
  refine wp_region_quiet (C := fun w' => Below w.heap.size w w') hm hB hbel ?_
  have := h base w gs tm hr
  simp only
  refine wpQuiet_mono' ?_ this
  rintro a' ⟨env', os', gs', hk, hd, hrel⟩ w' hw'
  exact ⟨env', os', gs', hrel w' hw', hd, hb.trans (hw'.mono hr.hb), hk⟩
where
  wpQuiet_mono' {P : Program} {ops : Array Oper} {C : World → Prop} {Q Q' : Act → Prop} (hq : ∀ a, Q a → Q' a) : ∀ {rest : List Oper} {a : Act}, wpQuiet P ops C Q rest a → wpQuiet P ops C Q' rest a
    | [], a, h => hq a h
    | o :: rest, a, h => by
      unfold wpQuiet at h ⊢
      split
      · rename_i hw; rw [if_pos hw] at h
        exact Oper.quiet_mono (fun a' h' => wpQuiet_mono' hq h') h
      · rename_i hw; rw [if_neg hw] at h
        exact wpQuiet_mono' hq h

theorem AOps.nil (h : K env os) : AOps P q l [] K env os := by
  cases q
  · exact fun base w0 w gs tm hr hb X Rt => ⟨env, os, gs, hr, rfl, hb, h⟩
  · exact fun base w gs tm hr => ⟨env, os, gs, h, rfl, fun w' hw' => hr.below hw'⟩
  · exact fun base w gs tm hr => ⟨env, os, gs, h, rfl, hr⟩

/-- Is the operation wanted? By its guard. -/
def wantedA (l : List Oper) (env : Env) (o : Oper) : Option Bool :=
  match o.guard with
  | none => some true
  | some (j, pol) => match (l[j]?).bind (·.dst) with
    | none => none
    | some d => match env.fd d with
      | some (.val (.bool b)) => some (b == pol)
      | some (.val (.tuple _)) => some false
      | _ => none

theorem wantedA_spec {base : Nat} {w : World} {gs : List Gh} {tm : Array Value} (h : Rel base w gs env os tm) {o : Oper} {b : Bool} (hw : wantedA l env o = some b) :
    Region.wanted o (yielded l.toArray tm) = b := by
  unfold wantedA at hw
  unfold Region.wanted
  split at hw
  · rename_i hg; rw [hg]; simpa using hw
  · rename_i j pol hg
    rw [hg]
    simp only
    split at hw
    · cases hw
    · rename_i d hd
      split at hw
      · rename_i b' hv
        have hx := (h.he d).val_eq (Env.lk_of hv)
        have hlt : d < tm.size := by
          rcases Nat.lt_or_ge d env.n with h1 | h1
          · exact Nat.lt_of_lt_of_le h1 h.hs
          · have h3 : Nat.blt d env.n = false := by rw [Bool.eq_false_iff]; intro h4; rw [Nat.blt_eq] at h4; omega
            simp [Env.fd, h3] at hv
        have hy : tm[d]? = some (.bool b') := by
          rw [Array.getElem?_eq_getElem hlt]
          simpa [Array.getD, hlt] using hx
        have hyl : yielded l.toArray tm j = some b' := by
          unfold yielded
          simp only [List.getElem?_toArray, hd, Option.bind_some, hy]
        rw [hyl]
        simpa using hw
      · rename_i a' hv
        have hx := (h.he d).val_eq (Env.lk_of hv)
        have hlt : d < tm.size := by
          rcases Nat.lt_or_ge d env.n with h1 | h1
          · exact Nat.lt_of_lt_of_le h1 h.hs
          · have h3 : Nat.blt d env.n = false := by rw [Bool.eq_false_iff]; intro h4; rw [Nat.blt_eq] at h4; omega
            simp [Env.fd, h3] at hv
        have hy : tm[d]? = some (.tuple a') := by
          rw [Array.getElem?_eq_getElem hlt]
          simpa [Array.getD, hlt] using hx
        have hyl : yielded l.toArray tm j = none := by
          unfold yielded
          simp only [List.getElem?_toArray, hd, Option.bind_some, hy]
        rw [hyl]
        simpa using hw
      · cases hw

/-- One quiet operation: it yields a value of the abstract value r in every world that is as this one was; 'wl': in whatever world. -/
def QOp (P : Program) (wl : Bool) (o : Oper) (env : Env) (os : List AO) (r : AV) : Prop :=
  ∀ base w gs tm, Rel base w gs env os tm → ∃ v, RV w (okOf gs os) gs v r ∧ (wl = true → ∀ w', (execOp (Act.eval ⟨tm, []⟩) o).run P w' = .ok (.value v) w') ∧
    ∀ w', (wl = false → Below w.heap.size w w') → o.quietAt P ⟨tm, []⟩ (fun w'' => wl = false → Below w.heap.size w w'') w' v

theorem AOps.qo {d : Tmp} {op : Op} {ty : TypeId} {pos : String} {af : Array Edge} {g : Option (Nat × Bool)} {r : AV}
    (hw : wantedA l env ⟨some d, op, ty, pos, af, g⟩ = some true) (ho : QOp P q.wl ⟨some d, op, ty, pos, af, g⟩ env os r) (h : AOps P q l rest K (env.up d r) os) :
    AOps P q l (⟨some d, op, ty, pos, af, g⟩ :: rest) K env os := by
  have key : ∀ {v : Value} {w w' : World} {op : Oper} {tm : Array Value}, op.quietAt P ⟨tm, []⟩ (fun w'' => false = false → Below w.heap.size w w'') w' v → op.quietAt P ⟨tm, []⟩ (fun w'' => Below w.heap.size w w'') w' v := by
    intro v w w' op tm h
    have e : (fun w'' => false = false → Below w.heap.size w w'') = (fun w'' => Below w.heap.size w w'') := by funext w''; simp
    rwa [e] at h
  cases q
  · intro base w0 w gs tm hr hb X Rt
    obtain ⟨v, hv, _, hq⟩ := ho base w gs tm hr
    have hwa := wantedA_spec hr hw
    unfold wpList
    rw [if_pos hwa]
    refine .inl (Oper.wp_of_quiet (C := fun w' => Below w.heap.size w w') (K := fun a' => a' = Act.put ⟨tm, []⟩ (some d) v) (Below.refl _ _) ?_ ⟨v, fun w' hw' => key (hq w' fun _ => hw'), rfl⟩)
    intro a' w' hw' he
    subst he
    exact h base w0 w' gs _ ((hr.put hv d).below hw') (hb.trans (hw'.mono hr.hb)) X Rt
  · intro base w gs tm hr
    obtain ⟨v, hv, _, hq⟩ := ho base w gs tm hr
    have hwa := wantedA_spec hr hw
    unfold wpQuiet
    rw [if_pos hwa]
    exact ⟨v, fun w' hw' => key (hq w' fun _ => hw'), h base w gs _ (hr.put hv d)⟩
  · intro base w gs tm hr
    obtain ⟨v, hv, hq, _⟩ := ho base w gs tm hr
    exact ⟨v, .inl ⟨wantedA_spec hr hw, hq rfl⟩, h base w gs _ (hr.put hv d)⟩

theorem AOps.skip {d : Tmp} {op : Op} {ty : TypeId} {pos : String} {af : Array Edge} {g : Option (Nat × Bool)}
    (hw : wantedA l env ⟨some d, op, ty, pos, af, g⟩ = some false) (h : AOps P q l rest K (env.up d (.val undef)) os) :
    AOps P q l (⟨some d, op, ty, pos, af, g⟩ :: rest) K env os := by
  cases q
  · intro base w0 w gs tm hr hb X Rt
    have hwa := wantedA_spec hr hw
    unfold wpList
    rw [if_neg (by rw [hwa]; simp)]
    exact h base w0 w gs _ (hr.put (.val undef) d) hb X Rt
  · intro base w gs tm hr
    have hwa := wantedA_spec hr hw
    unfold wpQuiet
    rw [if_neg (by rw [hwa]; simp)]
    exact h base w gs _ (hr.put (.val undef) d)
  · intro base w gs tm hr
    exact ⟨undef, .inr ⟨wantedA_spec hr hw, rfl⟩, h base w gs _ (hr.put (.val undef) d)⟩

/-- A Bool in a slot is parted upon. -/
theorem AOps.split (d : Tmp) {b : Bool} (hd : env.lk d = .val (.bool b)) (ht : b = true → AOps P q l rest K (env.up d (.val (.bool true))) os)
    (hf : b = false → AOps P q l rest K (env.up d (.val (.bool false))) os) : AOps P q l rest K env os := by
  have key : ∀ {base : Nat} {w : World} {gs : List Gh} {tm : Array Value}, Rel base w gs env os tm → Rel base w gs (env.up d (.val (.bool b))) os tm := by
    intro base w gs tm h
    refine ⟨h.hb, h.hl, h.hs, fun i => ?_, h.ho, h.hd, h.hn⟩
    rw [Env.lk_up]
    split
    · rename_i hi
      have := h.he i
      rw [hi.1, hd] at this
      rw [hi.1]
      exact this
    · exact h.he i
  have h' : AOps P q l rest K (env.up d (.val (.bool b))) os := by
    cases b
    · exact hf rfl
    · exact ht rfl
  cases q
  · exact fun base w0 w gs tm hr hb X Rt => h' base w0 w gs tm (key hr) hb X Rt
  · exact fun base w gs tm hr => h' base w gs tm (key hr)
  · exact fun base w gs tm hr => h' base w gs tm (key hr)

end regions

/-! ### Loud operations -/

/-- One operation that makes or writes memory: the state behind it, and its value there. -/
def LOp (P : Program) (o : Oper) (env : Env) (os : List AO) (r : AV) (env1 : Env) (os1 : List AO) : Prop :=
  ∀ base w gs tm, Rel base w gs env os tm → ∃ v w' gs', ((execOp (Act.eval ⟨tm, []⟩) o).run P w = .ok (.value v) w' ∨ ((execOp (Act.eval ⟨tm, []⟩) o).run P w = .ok .skip w' ∧ v = undef)) ∧
    Rel base w' gs' env1 os1 tm ∧ RV w' (okOf gs' os1) gs' v r ∧ Below base w w'

/-- A call that makes or writes memory. -/
def COp (P : Program) (o : Oper) (env : Env) (os : List AO) (Q : AV → Env → List AO → Prop) : Prop :=
  ∀ base w gs tm, Rel base w gs env os tm → ∃ f args, (execOp (Act.eval ⟨tm, []⟩) o).run P w = .ok (.enter f args) w ∧
    Calls P f args w fun e w' => ∃ v r env1 os1 gs', e = .returned v ∧ Q r env1 os1 ∧ Rel base w' gs' env1 os1 tm ∧ RV w' (okOf gs' os1) gs' v r ∧ Below base w w'

section loud
variable {P : Program} {env env1 : Env} {os os1 : List AO} {l rest : List Oper} {K : APost} {op : Op} {ty : TypeId} {pos : String} {af : Array Edge} {r : AV}

theorem AOps.lo {d : Tmp} (ho : LOp P ⟨some d, op, ty, pos, af, none⟩ env os r env1 os1) (h : AOps P .seq l rest K (env1.up d r) os1) : AOps P .seq l (⟨some d, op, ty, pos, af, none⟩ :: rest) K env os := by
  intro base w0 w gs tm hr hb X Rt
  obtain ⟨v, w', gs', hrun, hr', hv, hb'⟩ := ho base w gs tm hr
  refine wpList_plain rfl fun K hK => ?_
  unfold Oper.wp
  rcases hrun with hrun | ⟨hrun, rfl⟩
  · rw [hrun]; exact hK _ _ (h base w0 w' gs' _ (hr'.put hv d) (hb.trans hb') X Rt)
  · rw [hrun]; exact hK _ _ (h base w0 w' gs' _ (hr'.put hv d) (hb.trans hb') X Rt)

theorem AOps.so (ho : LOp P ⟨none, op, ty, pos, af, none⟩ env os r env1 os1) (h : AOps P .seq l rest K env1 os1) : AOps P .seq l (⟨none, op, ty, pos, af, none⟩ :: rest) K env os := by
  intro base w0 w gs tm hr hb X Rt
  obtain ⟨v, w', gs', hrun, hr', hv, hb'⟩ := ho base w gs tm hr
  refine wpList_plain rfl fun K hK => ?_
  unfold Oper.wp
  rcases hrun with hrun | ⟨hrun, rfl⟩
  · rw [hrun]; exact hK _ _ (h base w0 w' gs' _ hr' (hb.trans hb') X Rt)
  · rw [hrun]; exact hK _ _ (h base w0 w' gs' _ hr' (hb.trans hb') X Rt)

theorem AOps.ca {d : Tmp} {Q : AV → Env → List AO → Prop} (ho : COp P ⟨some d, op, ty, pos, af, none⟩ env os Q) (h : ∀ r e o, Q r e o → AOps P .seq l rest K (e.up d r) o) :
    AOps P .seq l (⟨some d, op, ty, pos, af, none⟩ :: rest) K env os := by
  intro base w0 w gs tm hr hb X Rt
  obtain ⟨f, args, hrun, hc⟩ := ho base w gs tm hr
  refine wpList_plain rfl fun K hK => ?_
  unfold Oper.wp
  rw [hrun]
  refine hc.mono ?_
  rintro e w' ⟨v, r, env1, os1, gs', rfl, hq, hr', hv, hb'⟩
  exact hK _ _ (h r env1 os1 hq base w0 w' gs' _ (hr'.put hv d) (hb.trans hb') X Rt)

end loud

end Go.Proofs.Ytlkhcelodcneiaa
/-
  The quiet operations of the abstract machine: moves, arithmetic, comparisons, lengths, indexes, loads, parts of slices, calls that hand back plain values. No condition.
-/
namespace Go.Proofs.Ytlkhcelodcneiaa
open Go Go.RowKit

/-! ### Facts of the table of types -/
class TSlice (P : Program) (t : TypeId) (e : outParam TypeId) : Prop where
  und : P.underlying t = some (.slice e)
/-- A type of one cell that is no struct and no array. -/
class TCell (P : Program) (t : TypeId) : Prop where
  und : ∃ d, P.underlying t = some d ∧ (match d with | .struct _ | .array _ _ => true | _ => false) = false
  info : ∃ i, P.info? t = some i ∧ i.size = 1
/-- The zero value of an element's type, and its bytes. -/
class TElem (P : Program) (t : TypeId) (z : outParam Value) (bytes : outParam Nat) : Prop where
  info : ∃ i, P.info? t = some i ∧ i.size = 1 ∧ i.zero = some z ∧ i.bytes = bytes
  pos : 0 < bytes
class TKind (P : Program) (t : TypeId) (k : outParam IntKind) : Prop where
  und : P.underlying t = some (.int k)
class TBool (P : Program) (t : TypeId) : Prop where
  und : P.underlying t = some .bool
class TStr (P : Program) (t : TypeId) : Prop where
  und : P.underlying t = some .string
/-- A struct whose value has n cells. -/
class TStruct (P : Program) (t : TypeId) (n : outParam Nat) (zs : outParam (List Value)) : Prop where
  und : ∃ d, P.underlying t = some d ∧ (match d with | .struct _ | .array _ _ => true | _ => false) = true
  info : ∃ i, P.info? t = some i ∧ i.size = n ∧ i.zero = some (.agg zs.toArray) ∧ zs.length = n
class TField (P : Program) (t : TypeId) (f : Nat) (off : outParam Nat) : Prop where
  fld : ∃ fs fd i, P.underlying t = some (.struct fs) ∧ fs[f]? = some fd ∧ fd.offset = off ∧ P.info? fd.type = some i ∧ i.size = 1 ∧
    ∃ d, P.underlying fd.type = some d ∧ (match d with | .struct _ | .array _ _ => true | _ => false) = false

def geti (xs : List Int) (i : Int) : Int := xs.getD i.toNat 0
def gets (xss : List (List Int)) (i : Int) : List Int := xss.getD i.toNat []

section
variable {P : Program} {env : Env} {os : List AO} {d : Option Tmp} {ty : TypeId} {pos : String} {af : Array Edge} {g : Option (Nat × Bool)} {wl : Bool}

/-- The plainest way to a quiet operation. -/
theorem QOp.of_run {o : Oper} {r : AV} (h : ∀ base w gs tm, Rel base w gs env os tm → ∃ v, RV w (okOf gs os) gs v r ∧ ∀ w', (wl = false → Below w.heap.size w w') → (execOp (Act.eval ⟨tm, []⟩) o).run P w' = .ok (.value v) w') :
    QOp P wl o env os r := by
  intro base w gs tm hr
  obtain ⟨v, hv, hrun⟩ := h base w gs tm hr
  refine ⟨v, hv, fun e w' => hrun w' fun e' => (by rw [e] at e'; cases e'), fun w' hw' => ?_⟩
  unfold Oper.quietAt
  rw [hrun w' hw']
  exact ⟨rfl, rfl⟩
theorem QOp.of_runb {o : Oper} {r : AV} (h : ∀ base w gs tm, Rel base w gs env os tm → ∃ v, RV w (okOf gs os) gs v r ∧ ∀ w', Below w.heap.size w w' → (execOp (Act.eval ⟨tm, []⟩) o).run P w' = .ok (.value v) w') :
    QOp P false o env os r :=
  .of_run fun base w gs tm hr => let ⟨v, h1, h2⟩ := h base w gs tm hr; ⟨v, h1, fun w' hw' => h2 w' (hw' rfl)⟩

/-- A value already in place may be seen otherwise. -/
theorem QOp.cast {o : Oper} {r r' : AV} (e : r = r') (h : QOp P wl o env os r) : QOp P wl o env os r' := e ▸ h

theorem q_move {x : Operand} : QOp P wl ⟨d, .move x, ty, pos, af, g⟩ env os (AV.ev env x) :=
  .of_run fun _ _ _ _ hr => ⟨_, hr.ev x, fun _ _ => rfl⟩
theorem q_assign {x : Operand} : QOp P wl ⟨d, .assign x, ty, pos, af, g⟩ env os (AV.ev env x) :=
  .of_run fun _ _ _ _ hr => ⟨_, hr.ev x, fun _ _ => rfl⟩

theorem q_pick_t {c x y : Operand} (hc : AV.ev env c = .val (.bool true)) : QOp P wl ⟨d, .pick c x y, ty, pos, af, g⟩ env os (AV.ev env x) :=
  .of_run fun _ _ _ tm hr => ⟨_, hr.ev x, fun w' _ => by simp [execOp, hr.evv hc, asBool]⟩
theorem q_pick_f {c x y : Operand} (hc : AV.ev env c = .val (.bool false)) : QOp P wl ⟨d, .pick c x y, ty, pos, af, g⟩ env os (AV.ev env y) :=
  .of_run fun _ _ _ tm hr => ⟨_, hr.ev y, fun w' _ => by simp [execOp, hr.evv hc, asBool]⟩

/-- An operator on two known values. -/
theorem q_bin {op : BinOp} {xt yt : TypeId} {x y : Operand} {a b v : Value} (ha : AV.ev env x = .val a) (hb : AV.ev env y = .val b)
    (hg : eqGuard op xt x y a b = pure ()) (hrun : ∀ w, (binOp op xt a b).run P w = .ok v w) : QOp P wl ⟨d, .binOp op xt x y yt, ty, pos, af, g⟩ env os (.val v) :=
  .of_run fun _ _ _ tm hr => ⟨v, .val v, fun w' _ => by simp [execOp, hr.evv ha, hr.evv hb, hg, hrun]⟩

section ints
variable {xt yt : TypeId} {x y : Operand} {a b : Int} {k : IntKind}
theorem q_add (ha : AV.ev env x = .i a) (hb : AV.ev env y = .i b) (hi : inI (a + b)) : QOp P wl ⟨d, .binOp .add xt x y yt, ty, pos, af, g⟩ env os (.i (a + b)) :=
  q_bin ha hb (by simp [go_sem]) fun w => by simp [go_sem, IntWalk.i64_in _ hi]
theorem q_sub (ha : AV.ev env x = .i a) (hb : AV.ev env y = .i b) (hi : inI (a - b)) : QOp P wl ⟨d, .binOp .sub xt x y yt, ty, pos, af, g⟩ env os (.i (a - b)) :=
  q_bin ha hb (by simp [go_sem]) fun w => by simp [go_sem, IntWalk.i64_in _ hi]
theorem q_mul (ha : AV.ev env x = .i a) (hb : AV.ev env y = .i b) (hi : inI (a * b)) : QOp P wl ⟨d, .binOp .mul xt x y yt, ty, pos, af, g⟩ env os (.i (a * b)) :=
  q_bin ha hb (by simp [go_sem]) fun w => by simp [go_sem, IntWalk.i64_in _ hi]
theorem q_quoT (ha : AV.ev env x = .i a) (hb : AV.ev env y = .i b) (h0 : b ≠ 0) (hi : inI (a.tdiv b)) : QOp P wl ⟨d, .binOp .quo xt x y yt, ty, pos, af, g⟩ env os (.i (a.tdiv b)) :=
  q_bin ha hb (by simp [go_sem]) fun w => by simp [go_sem, IntWalk.i64_in _ hi, h0]
theorem q_remT (ha : AV.ev env x = .i a) (hb : AV.ev env y = .i b) (h0 : b ≠ 0) : QOp P wl ⟨d, .binOp .rem xt x y yt, ty, pos, af, g⟩ env os (.i (a.tmod b)) :=
  q_bin ha hb (by simp [go_sem]) fun w => by simp [go_sem, h0]
theorem q_quo (ha : AV.ev env x = .i a) (hb : AV.ev env y = .i b) (h0 : 0 ≤ a) (h1 : 0 < b) (hi : inI a) : QOp P wl ⟨d, .binOp .quo xt x y yt, ty, pos, af, g⟩ env os (.i (a / b)) := by
  have e : a.tdiv b = a / b := Int.tdiv_eq_ediv_of_nonneg h0
  have h2 : 0 ≤ a / b := Int.ediv_nonneg h0 (by omega)
  have h3 : a / b ≤ a := Int.ediv_le_self b h0
  have := q_quoT (P := P) (wl := wl) (os := os) (d := d) (ty := ty) (pos := pos) (af := af) (g := g) (xt := xt) (yt := yt) ha hb (by omega) (by rw [e]; unfold inI at *; omega)
  rwa [e] at this
theorem q_rem (ha : AV.ev env x = .i a) (hb : AV.ev env y = .i b) (h0 : 0 ≤ a) (h1 : 0 < b) : QOp P wl ⟨d, .binOp .rem xt x y yt, ty, pos, af, g⟩ env os (.i (a % b)) := by
  have e : a.tmod b = a % b := Int.tmod_eq_emod_of_nonneg h0
  have := q_remT (P := P) (wl := wl) (os := os) (d := d) (ty := ty) (pos := pos) (af := af) (g := g) (xt := xt) (yt := yt) ha hb (by omega)
  rwa [e] at this
theorem q_eql (ha : AV.ev env x = .val (.int k a)) (hb : AV.ev env y = .val (.int k b)) : QOp P wl ⟨d, .binOp .eql xt x y yt, ty, pos, af, g⟩ env os (.b (decide (a = b))) :=
  q_bin ha hb (by simp [go_sem]) fun w => by rw [binOp_eql, show (a == b) = decide (a = b) from by rw [Bool.eq_iff_iff]; simp]; rfl
theorem q_neq (ha : AV.ev env x = .val (.int k a)) (hb : AV.ev env y = .val (.int k b)) : QOp P wl ⟨d, .binOp .neq xt x y yt, ty, pos, af, g⟩ env os (.b (decide (a ≠ b))) :=
  q_bin ha hb (by simp [go_sem]) fun w => by rw [binOp_neq, show (a != b) = decide (a ≠ b) from by rw [Bool.eq_iff_iff]; simp]; rfl
theorem q_lss (ha : AV.ev env x = .val (.int k a)) (hb : AV.ev env y = .val (.int k b)) : QOp P wl ⟨d, .binOp .lss xt x y yt, ty, pos, af, g⟩ env os (.b (decide (a < b))) :=
  q_bin ha hb (by simp [go_sem]) fun w => by rw [binOp_lss]; rfl
theorem q_leq (ha : AV.ev env x = .val (.int k a)) (hb : AV.ev env y = .val (.int k b)) : QOp P wl ⟨d, .binOp .leq xt x y yt, ty, pos, af, g⟩ env os (.b (decide (a ≤ b))) :=
  q_bin ha hb (by simp [go_sem]) fun w => by rw [binOp_leq]; rfl
theorem q_gtr (ha : AV.ev env x = .val (.int k a)) (hb : AV.ev env y = .val (.int k b)) : QOp P wl ⟨d, .binOp .gtr xt x y yt, ty, pos, af, g⟩ env os (.b (decide (b < a))) :=
  q_bin ha hb (by simp [go_sem]) fun w => by rw [binOp_gtr]; rfl
theorem q_geq (ha : AV.ev env x = .val (.int k a)) (hb : AV.ev env y = .val (.int k b)) : QOp P wl ⟨d, .binOp .geq xt x y yt, ty, pos, af, g⟩ env os (.b (decide (b ≤ a))) :=
  q_bin ha hb (by simp [go_sem]) fun w => by rw [binOp_geq]; rfl
end ints

theorem q_eqlb {xt yt : TypeId} [ht : TBool P xt] {x y : Operand} {a b : Bool} (ha : AV.ev env x = .b a) (hb : AV.ev env y = .b b) : QOp P wl ⟨d, .binOp .eql xt x y yt, ty, pos, af, g⟩ env os (.b (decide (a = b))) :=
  q_bin ha hb (by simp [go_sem]) fun w => by rw [run_eql_bool w xt a b ht.und, show (a == b) = decide (a = b) from by rw [Bool.eq_iff_iff]; simp]
theorem q_neqb {xt yt : TypeId} [ht : TBool P xt] {x y : Operand} {a b : Bool} (ha : AV.ev env x = .b a) (hb : AV.ev env y = .b b) : QOp P wl ⟨d, .binOp .neq xt x y yt, ty, pos, af, g⟩ env os (.b (decide (a ≠ b))) :=
  q_bin ha hb (by simp [go_sem]) fun w => by rw [run_neq_bool w xt a b ht.und, show (!(a == b)) = decide (a ≠ b) from by rw [Bool.eq_iff_iff]; simp]

theorem q_not {xt : TypeId} {x : Operand} {b : Bool} (hb : AV.ev env x = .b b) : QOp P wl ⟨d, .unOp .not xt x, ty, pos, af, g⟩ env os (.b (!b)) :=
  .of_run fun _ _ _ tm hr => ⟨_, .val _, fun w' _ => by simp [execOp, hr.evv hb, Op.unary]⟩
theorem q_neg {xt : TypeId} {x : Operand} {a : Int} (ha : AV.ev env x = .i a) (hi : inI (0 - a)) : QOp P wl ⟨d, .unOp .neg xt x, ty, pos, af, g⟩ env os (.i (0 - a)) :=
  .of_run fun _ _ _ tm hr => ⟨_, .val _, fun w' _ => by have := IntWalk.i64_in _ hi; simp only [execOp, hr.evv ha, Op.unary, Op.intArith, this]; rfl⟩
theorem q_conv {src dst : TypeId} [hs : TKind P src .i64] [hd : TKind P dst .i64] {x : Operand} {a : Int} (ha : AV.ev env x = .i a) (hi : inI a) :
    QOp P wl ⟨d, .convert src dst x, ty, pos, af, g⟩ env os (.i a) :=
  .of_run fun _ _ _ tm hr => ⟨_, .val _, fun w' _ => by simp [execOp, hr.evv ha, convert, run_underlying hs.und, run_underlying hd.und, Conv.intToInt, IntWalk.i64_in _ hi]⟩
theorem q_min {ats : Array TypeId} {x y : Operand} {a b : Int} (ha : AV.ev env x = .i a) (hb : AV.ev env y = .i b) :
    QOp P wl ⟨d, .call { callee := .builtin .min, args := #[x, y], argTypes := ats }, ty, pos, af, g⟩ env os (.i (min a b)) :=
  .of_run fun _ _ _ tm hr => ⟨.int .i64 (if b < a then b else a), by
    have : (if b < a then b else a) = min a b := by simp only [Int.min_def]; split <;> split <;> omega
    rw [this]; exact .val _, fun w' _ => by simp [execOp, hr.evv ha, hr.evv hb, resolve, invoke, builtin, run_min_int2]⟩
theorem q_max {ats : Array TypeId} {x y : Operand} {a b : Int} (ha : AV.ev env x = .i a) (hb : AV.ev env y = .i b) :
    QOp P wl ⟨d, .call { callee := .builtin .max, args := #[x, y], argTypes := ats }, ty, pos, af, g⟩ env os (.i (max a b)) :=
  .of_run fun _ _ _ tm hr => ⟨.int .i64 (if b > a then b else a), by
    have : (if b > a then b else a) = max a b := by simp only [Int.max_def]; split <;> split <;> omega
    rw [this]; exact .val _, fun w' _ => by simp [execOp, hr.evv ha, hr.evv hb, resolve, invoke, builtin, run_max_int2]⟩

theorem q_extract {x : Operand} {l : List AV} {i : Nat} (hx : AV.ev env x = .tup l) (hi : i < l.length) : QOp P wl ⟨d, .extract x i, ty, pos, af, g⟩ env os (l.getD i .any) :=
  .of_run fun _ w gs tm hr => by
    have h := hr.ev x
    rw [hx] at h
    generalize hv : Act.eval ⟨tm, []⟩ x = v at h
    cases h with
    | @tup vs _ h1 h2 =>
      have hi' : i < vs.length := by omega
      refine ⟨_, h2 i, fun w' _ => ?_⟩
      simp [execOp, hv, Instr.extract, hi', List.getD_eq_getElem?_getD]
theorem q_extract_v {x : Operand} {vs : List Value} {i : Nat} {u : Value} (hx : AV.ev env x = .val (.tuple vs.toArray)) (hi : vs[i]? = some u) : QOp P wl ⟨d, .extract x i, ty, pos, af, g⟩ env os (.val u) :=
  .of_run fun _ w gs tm hr => ⟨u, .val u, fun w' _ => by simp [execOp, hr.evv hx, Instr.extract, hi]⟩

/-! ### Lengths -/
/-- The abstract value is a slice of n elements. -/
inductive HasLen (os : List AO) : AV → Nat → Prop
  | ints (xs : List Int) : HasLen os (.ints xs) xs.length
  | intss (xss : List (List Int)) : HasLen os (.intss xss) xss.length
  | nil : HasLen os (.val (.slice none 0 0)) 0
  | sli {h : Nat} {e : TypeId} {xs : List Int} : os[h]? = some (.sli e xs) → HasLen os (.own h) xs.length
  | slr {h : Nat} {e : TypeId} {avs : List AV} : os[h]? = some (.slr e avs) → HasLen os (.own h) avs.length
  | sls {h : Nat} {e e2 : TypeId} {xss : List (List Int)} : os[h]? = some (.sls e e2 xss) → HasLen os (.own h) xss.length
  | orow {h i : Nat} {e e2 : TypeId} {xss : List (List Int)} : os[h]? = some (.sls e e2 xss) → HasLen os (.orow h i) (xss.getD i []).length

theorem ownsRow_slice {w : World} {base : Nat} {e : TypeId} {size n : Nat} {v : Value} {xs : List Value} (h : w.ownsRow base e size v n xs) : ∃ a cap, v = .slice a n cap := by
  rcases h.2 with ⟨rfl, rfl⟩ | ⟨g, cap, _, rfl, _⟩
  · exact ⟨_, _, rfl⟩
  · exact ⟨_, _, rfl⟩

theorem HasLen.slice {base : Nat} {w : World} {gs : List Gh} {tm : Array Value} (hr : Rel base w gs env os tm) {v : Value} {a : AV} {n : Nat} (h : HasLen os a n) (hv : RV w (okOf gs os) gs v a) :
    ∃ p cap, v = .slice p n cap := by
  cases h with
  | ints xs => cases hv with | ints h1 => obtain ⟨⟨p, cap, e, _⟩, _⟩ := h1; exact ⟨p, cap, by simpa using e⟩
  | intss xss => cases hv with | intss h1 => obtain ⟨vs, ⟨p, cap, e, _⟩, hl, _⟩ := h1; exact ⟨p, cap, by rw [e, hl]⟩
  | nil => cases hv; exact ⟨_, _, rfl⟩
  | sli h1 => cases hv with | own hg => exact ownsRow_slice (hr.ho _ _ _ hg h1).1
  | slr h1 => cases hv with | own hg => obtain ⟨vs, a1, a2, _⟩ := hr.ho _ _ _ hg h1; rw [← a2]; exact ownsRow_slice a1
  | sls h1 => cases hv with | own hg => obtain ⟨vs, _, _, a1, a2, _⟩ := hr.ho _ _ _ hg h1; rw [← a2]; exact ownsRow_slice a1
  | orow h1 => cases hv with | orow hg hrow =>
      obtain ⟨vs, _, _, a1, a2, a3, a4, a5, _⟩ := hr.ho _ _ _ hg h1
      rw [a4] at hrow
      exact ownsRow_slice (a5 _ _ hrow).1

theorem q_len {t e : TypeId} [ht : TSlice P t e] {x : Operand} {n : Nat} (hx : HasLen os (AV.ev env x) n) :
    QOp P wl ⟨d, .call { callee := .builtin .len, args := #[x], argTypes := #[t] }, ty, pos, af, g⟩ env os (.i n) :=
  .of_run fun _ w gs tm hr => by
    obtain ⟨p, cap, hv⟩ := hx.slice hr (hr.ev x)
    refine ⟨_, .val _, fun w' _ => ?_⟩
    simp [execOp, resolve, invoke, builtin, hv, Builtin.len_, run_underlying ht.und, goInt]

/-! ### Indexes and loads of what is only read -/
theorem run_idx {t e : TypeId} (ht : P.underlying t = some (.slice e)) {i : TypeInfo} (hi : P.info? e = some i) (hs : i.size = 1) (a : Addr) (n cap : Nat) (j : Int) (h0 : 0 ≤ j) (h1 : j < n) (w : World) :
    (Instr.indexAt t (.slice (some a) n cap) (.int .i64 j)).run P w = .ok (.pointer (some (a.add j.toNat))) w := by
  simp [Instr.indexAt, run_underlying ht, asIntOf, sizeOf, typeInfo, hi, hs, h0, h1]

theorem q_idx_ints {t e : TypeId} [ht : TSlice P t e] [he : TCell P e] {x y : Operand} {xs : List Int} {i : Int} (hx : AV.ev env x = .ints xs) (hy : AV.ev env y = .i i) (h0 : 0 ≤ i) (h1 : i < xs.length) :
    QOp P wl ⟨d, .indexAddr t x y, ty, pos, af, g⟩ env os (.iptr xs i) :=
  .of_run fun _ w gs tm hr => by
    have h := hr.ev x
    rw [hx] at h
    generalize hv : Act.eval ⟨tm, []⟩ x = v at h
    cases h with
    | ints hxs =>
      refine ⟨_, .iptr hxs h0 h1, fun w' _ => ?_⟩
      obtain ⟨⟨p, cap, e1, _, _, h3⟩, _⟩ := hxs
      obtain ⟨b, off, rfl, _⟩ := h3 (by simp; omega)
      obtain ⟨ie, hi, hs⟩ := he.info
      have hrun := run_idx ht.und hi hs ⟨b, off, none⟩ (xs.map (Value.int .i64)).length cap i h0 (by simpa using h1) w'
      simp only [execOp, hv, e1, hr.evv hy, Sem.run_bind, hrun, eptr, Result.andThen_ok, Sem.run_pure]
theorem q_idx_intss {t e : TypeId} [ht : TSlice P t e] [he : TCell P e] {x y : Operand} {xss : List (List Int)} {i : Int} (hx : AV.ev env x = .intss xss) (hy : AV.ev env y = .i i) (h0 : 0 ≤ i) (h1 : i < xss.length) :
    QOp P wl ⟨d, .indexAddr t x y, ty, pos, af, g⟩ env os (.iiptr xss i) :=
  .of_run fun _ w gs tm hr => by
    have h := hr.ev x
    rw [hx] at h
    generalize hv : Act.eval ⟨tm, []⟩ x = v at h
    cases h with
    | intss hxs =>
      refine ⟨_, .iiptr hxs h0 h1, fun w' _ => ?_⟩
      obtain ⟨vs, ⟨p, cap, e1, _, _, h3⟩, hl, _⟩ := hxs
      obtain ⟨b, off, rfl, _⟩ := h3 (by omega)
      obtain ⟨ie, hi, hs⟩ := he.info
      have hrun := run_idx ht.und hi hs ⟨b, off, none⟩ vs.length cap i h0 (by omega) w'
      simp only [execOp, hv, e1, hr.evv hy, Sem.run_bind, hrun, eptr, Result.andThen_ok, Sem.run_pure]

theorem run_load_cell {t : TypeId} [ht : TCell P t] {a : Addr} {u : Value} {w : World} (hc : w.cell? a = some u) : (Instr.loadAt t (.pointer (some a))).run P w = .ok u w := by
  obtain ⟨dd, hu, hd⟩ := ht.und
  have hagg : (isAgg t).run P w = .ok false w := by
    unfold isAgg
    rw [Sem.run_bind, run_underlying hu w]
    cases dd <;> simp_all
  simp [Instr.loadAt, Instr.sureAddr, loadVar, hagg, hc]

theorem below_cell {w w' : World} (hw : Below w.heap.size w w') {a : Addr} {u : Value} (hc : w.cell? a = some u) : w'.cell? a = some u := by
  rw [hw.cell (World.block_lt_of_cell? w a hc)]; exact hc

theorem add_none (b o n : Nat) : (⟨b, o, none⟩ : Addr).add n = ⟨b, o + n, none⟩ := by unfold Addr.add; split <;> simp_all

theorem q_load_iptr {t : TypeId} [ht : TCell P t] {x : Operand} {xs : List Int} {i : Int} (hx : AV.ev env x = .iptr xs i) : QOp P false ⟨d, .load t x, ty, pos, af, g⟩ env os (.i (geti xs i)) :=
  .of_runb fun _ w gs tm hr => by
    have h := hr.ev x
    rw [hx] at h
    generalize hv : Act.eval ⟨tm, []⟩ x = v at h
    cases h with
    | @iptr v _ _ hxs h0 h1 =>
      refine ⟨_, .val _, fun w' hw' => ?_⟩
      obtain ⟨⟨p, cap, e1, _, _, h3⟩, _⟩ := hxs
      obtain ⟨b, off, rfl, _, hc⟩ := h3 (by simp; omega)
      have hlt : i.toNat < xs.length := by omega
      have hcell := below_cell hw' (hc i.toNat (.int .i64 (geti xs i)) (by simp [geti, hlt]))
      simp only [execOp, hv, e1, eptr, add_none, Sem.run_bind, run_load_cell hcell, Result.andThen_ok, Sem.run_pure]
theorem q_load_iiptr {t : TypeId} [ht : TCell P t] {x : Operand} {xss : List (List Int)} {i : Int} (hx : AV.ev env x = .iiptr xss i) : QOp P false ⟨d, .load t x, ty, pos, af, g⟩ env os (.ints (gets xss i)) :=
  .of_runb fun _ w gs tm hr => by
    have h := hr.ev x
    rw [hx] at h
    generalize hv : Act.eval ⟨tm, []⟩ x = v at h
    cases h with
    | @iiptr v _ _ hxs h0 h1 =>
      obtain ⟨vs, ⟨p, cap, e1, _, _, h3⟩, hl, hrow⟩ := hxs
      obtain ⟨b, off, rfl, _, hc⟩ := h3 (by omega)
      have hlt : i.toNat < vs.length := by omega
      have hrw := hrow i.toNat _ (List.getElem?_eq_getElem hlt)
      refine ⟨_, .ints hrw, fun w' hw' => ?_⟩
      have hcell := below_cell hw' (hc i.toNat _ (List.getElem?_eq_getElem hlt))
      simp only [execOp, hv, e1, eptr, add_none, Sem.run_bind, run_load_cell hcell, Result.andThen_ok, Sem.run_pure]

/-! ### Indexes and loads of the call's own memory -/
/-- What is known of a handle's slice. -/
theorem own_slice {w : World} {base : Nat} {e : TypeId} {v : Value} {n : Nat} {vs : List Value} (h : w.ownsRow base e 1 v n vs) {i : Nat} (hi : i < vs.length) :
    ∃ b cap, v = .slice (some ⟨b, 0, none⟩) n cap ∧ v.ownBlock = some b ∧ w.cell? ⟨b, i, none⟩ = vs[i]? ∧ w.frozen? ⟨b, i, none⟩ = false := by
  have hlen := h.1
  rcases h.2 with ⟨rfl, rfl⟩ | ⟨b, cap, cur, rfl, r⟩
  · simp at hlen; subst hlen; simp at hi
  · have h' : w.ownsRow base e 1 (.slice (some ⟨b, 0, none⟩) n cap) n vs := ⟨hlen, .inr ⟨b, cap, cur, rfl, r⟩⟩
    exact ⟨b, cap, rfl, rfl, h'.cellAt i (by omega), h'.frozenAt i⟩

theorem GB.eq {g : Gh} (h : GB g) {b : Nat} (hb : g.v.ownBlock = some b) : g.b = b := by
  rcases h with ⟨h1, _⟩ | ⟨h1, _⟩
  · rw [h1] at hb; cases hb
  · rw [h1] at hb; cases hb; rfl

/-- The cells of an object that is a slice, and where they lie. -/
inductive IsSl (os : List AO) (h : Nat) : Nat → Prop
  | sli {e : TypeId} {xs : List Int} : os[h]? = some (.sli e xs) → IsSl os h xs.length
  | slr {e : TypeId} {avs : List AV} : os[h]? = some (.slr e avs) → IsSl os h avs.length
  | sls {e e2 : TypeId} {xss : List (List Int)} : os[h]? = some (.sls e e2 xss) → IsSl os h xss.length

theorem IsSl.at {base : Nat} {w : World} {gs : List Gh} {tm : Array Value} (hr : Rel base w gs env os tm) {h n : Nat} (hs : IsSl os h n) {gh : Gh} (hg : gs[h]? = some gh) {i : Nat} (hi : i < n) :
    ∃ cap, gh.v = .slice (some ⟨gh.b, 0, none⟩) n cap := by
  cases hs with
  | sli ho =>
    obtain ⟨a1, a2, a3⟩ := hr.ho _ _ _ hg ho
    obtain ⟨b, cap, e1, e2, _⟩ := own_slice a1 (i := i) (by simpa using hi)
    rw [a3.eq e2]; exact ⟨cap, e1⟩
  | slr ho =>
    obtain ⟨vs, a1, a2, a3, a4⟩ := hr.ho _ _ _ hg ho
    obtain ⟨b, cap, e1, e2, _⟩ := own_slice a1 (i := i) (by omega)
    rw [a4.eq e2, ← a2]; exact ⟨cap, e1⟩
  | sls ho =>
    obtain ⟨vs, bs, mb, a1, a2, a3, a4, a5, a6, _⟩ := hr.ho _ _ _ hg ho
    obtain ⟨b, cap, e1, e2, _⟩ := own_slice a1 (i := i) (by omega)
    have : gh.b = b := by
      rcases a6 with ⟨h1, _⟩ | ⟨h1, _⟩
      · rw [h1] at e2; cases e2
      · rw [h1] at e2; cases e2; rfl
    rw [this, ← a2]; exact ⟨cap, e1⟩

theorem q_idx_own {t e : TypeId} [ht : TSlice P t e] [he : TCell P e] {x y : Operand} {h n : Nat} {i : Int} (hx : AV.ev env x = .own h) (hs : IsSl os h n) (hy : AV.ev env y = .i i) (h0 : 0 ≤ i) (h1 : i < n) :
    QOp P wl ⟨d, .indexAddr t x y, ty, pos, af, g⟩ env os (.optr h i.toNat) :=
  .of_run fun _ w gs tm hr => by
    have hh := hr.ev x
    rw [hx] at hh
    generalize hv : Act.eval ⟨tm, []⟩ x = v at hh
    cases hh with
    | @own _ gh hg =>
      refine ⟨_, .optr hg, fun w' _ => ?_⟩
      obtain ⟨cap, e1⟩ := hs.at hr hg (i := i.toNat) (by omega)
      obtain ⟨ie, hi, hs1⟩ := he.info
      have hrun := run_idx ht.und hi hs1 ⟨gh.b, 0, none⟩ n cap i h0 h1 w'
      simp only [execOp, hv, e1, hr.evv hy, Sem.run_bind, hrun, add_none, Nat.zero_add, Result.andThen_ok, Sem.run_pure]

theorem q_idx_orow {t e : TypeId} [ht : TSlice P t e] [he : TCell P e] {x y : Operand} {h j : Nat} {te te2 : TypeId} {xss : List (List Int)} {i : Int} (hx : AV.ev env x = .orow h j) (hs : os[h]? = some (.sls te te2 xss)) (hy : AV.ev env y = .i i)
    (h0 : 0 ≤ i) (h1 : i < (xss.getD j []).length) : QOp P wl ⟨d, .indexAddr t x y, ty, pos, af, g⟩ env os (.orptr h j i.toNat) :=
  .of_run fun _ w gs tm hr => by
    have hh := hr.ev x
    rw [hx] at hh
    generalize hv : Act.eval ⟨tm, []⟩ x = v at hh
    cases hh with
    | orow hg hrow =>
      have hrow' := hrow
      obtain ⟨vs, bs, mb, a1, a2, a3, a4, a5, _⟩ := hr.ho _ _ _ hg hs
      rw [a4] at hrow'
      obtain ⟨r1, _⟩ := a5 _ _ hrow'
      obtain ⟨b, cap, e1, _⟩ := own_slice r1 (i := i.toNat) (by rw [List.length_map]; omega)
      rw [e1] at hrow
      refine ⟨_, .orptr hg hrow, fun w' _ => ?_⟩
      obtain ⟨ie, hi, hs1⟩ := he.info
      have hrun := run_idx ht.und hi hs1 ⟨b, 0, none⟩ _ cap i h0 h1 w'
      simp only [execOp, hv, e1, hr.evv hy, Sem.run_bind, hrun, add_none, Nat.zero_add, Result.andThen_ok, Sem.run_pure]

theorem q_load_sli {t : TypeId} [ht : TCell P t] {x : Operand} {h i : Nat} {e : TypeId} {xs : List Int} (hx : AV.ev env x = .optr h i) (hs : os[h]? = some (.sli e xs)) (hi : i < xs.length) :
    QOp P false ⟨d, .load t x, ty, pos, af, g⟩ env os (.i (geti xs i)) :=
  .of_runb fun _ w gs tm hr => by
    have hh := hr.ev x
    rw [hx] at hh
    generalize hv : Act.eval ⟨tm, []⟩ x = v at hh
    cases hh with
    | optr hg =>
      refine ⟨_, .val _, fun w' hw' => ?_⟩
      obtain ⟨a1, a2, a3⟩ := hr.ho _ _ _ hg hs
      obtain ⟨b, cap, e1, e2, e3, _⟩ := own_slice a1 (i := i) (by simpa using hi)
      rw [a3.eq e2] at hv
      have hcell := below_cell hw' (u := .int .i64 (geti xs i)) (by rw [e3]; simp [geti, hi])
      simp only [execOp, hv, Sem.run_bind, run_load_cell hcell, Result.andThen_ok, Sem.run_pure]
theorem q_load_slr {t : TypeId} [ht : TCell P t] {x : Operand} {h i : Nat} {e : TypeId} {avs : List AV} {a : AV} (hx : AV.ev env x = .optr h i) (hs : os[h]? = some (.slr e avs)) (hi : avs[i]? = some a) :
    QOp P false ⟨d, .load t x, ty, pos, af, g⟩ env os a :=
  .of_runb fun _ w gs tm hr => by
    have hh := hr.ev x
    rw [hx] at hh
    generalize hv : Act.eval ⟨tm, []⟩ x = v at hh
    cases hh with
    | optr hg =>
      obtain ⟨vs, a1, a2, a3, a4⟩ := hr.ho _ _ _ hg hs
      have hiv : i < vs.length := by have := (List.getElem?_eq_some_iff.1 hi).1; omega
      have hrv := a3 i
      rw [List.getD_eq_getElem?_getD, List.getElem?_eq_getElem hiv, List.getD_eq_getElem?_getD, hi] at hrv
      simp only [Option.getD_some] at hrv
      refine ⟨_, hrv, fun w' hw' => ?_⟩
      obtain ⟨b, cap, e1, e2, e3, _⟩ := own_slice a1 (i := i) hiv
      rw [a4.eq e2] at hv
      have hcell := below_cell hw' (e3.trans (List.getElem?_eq_getElem hiv))
      simp only [execOp, hv, Sem.run_bind, run_load_cell hcell, Result.andThen_ok, Sem.run_pure]
theorem q_load_sls {t : TypeId} [ht : TCell P t] {x : Operand} {h i : Nat} {e e2 : TypeId} {xss : List (List Int)} (hx : AV.ev env x = .optr h i) (hs : os[h]? = some (.sls e e2 xss)) (hi : i < xss.length) :
    QOp P false ⟨d, .load t x, ty, pos, af, g⟩ env os (.orow h i) :=
  .of_runb fun _ w gs tm hr => by
    have hh := hr.ev x
    rw [hx] at hh
    generalize hv : Act.eval ⟨tm, []⟩ x = v at hh
    cases hh with
    | @optr _ _ gh hg =>
      obtain ⟨vs, bs, mb, a1, a2, a3, a4, a5, a6, _⟩ := hr.ho _ _ _ hg hs
      have hiv : i < vs.length := by omega
      refine ⟨vs[i], .orow hg (by rw [a4]; exact List.getElem?_eq_getElem hiv), fun w' hw' => ?_⟩
      obtain ⟨b, cap, e1, e2', e3, _⟩ := own_slice a1 (i := i) hiv
      have : gh.b = b := by
        rcases a6 with ⟨h1, _⟩ | ⟨h1, _⟩
        · rw [h1] at e2'; cases e2'
        · rw [h1] at e2'; cases e2'; rfl
      rw [this] at hv
      have hcell := below_cell hw' (e3.trans (List.getElem?_eq_getElem hiv))
      simp only [execOp, hv, Sem.run_bind, run_load_cell hcell, Result.andThen_ok, Sem.run_pure]
theorem q_load_orptr {t : TypeId} [ht : TCell P t] {x : Operand} {h i j : Nat} {e e2 : TypeId} {xss : List (List Int)} (hx : AV.ev env x = .orptr h i j) (hs : os[h]? = some (.sls e e2 xss)) (hj : j < (xss.getD i []).length) :
    QOp P false ⟨d, .load t x, ty, pos, af, g⟩ env os (.i (geti (xss.getD i []) j)) :=
  .of_runb fun _ w gs tm hr => by
    have hh := hr.ev x
    rw [hx] at hh
    generalize hv : Act.eval ⟨tm, []⟩ x = v at hh
    cases hh with
    | @orptr _ _ _ blk n c gh hg hrow =>
      obtain ⟨vs, bs, mb, a1, a2, a3, a4, a5, a6, _⟩ := hr.ho _ _ _ hg hs
      rw [a4] at hrow
      obtain ⟨r1, _⟩ := a5 _ _ hrow
      obtain ⟨b, cap, e1, e2', e3, _⟩ := own_slice r1 (i := j) (by simpa using hj)
      simp only [Value.slice.injEq, Option.some.injEq, Addr.mk.injEq, and_true] at e1
      obtain ⟨rfl, _, _⟩ := e1
      refine ⟨_, .val _, fun w' hw' => ?_⟩
      have hcell := below_cell hw' (u := .int .i64 (geti (xss.getD i []) j)) (by rw [e3]; generalize xss.getD i [] = row at hj ⊢; simp [geti, hj])
      simp only [execOp, hv, Sem.run_bind, run_load_cell hcell, Result.andThen_ok, Sem.run_pure]

/-- A cell of a variable. -/
theorem q_load_bx {t : TypeId} [ht : TCell P t] {x : Operand} {h i : Nat} {T : TypeId} {avs : List AV} (hx : AV.ev env x = .optr h i) (hs : os[h]? = some (.bx T avs)) (hi : i < avs.length) :
    QOp P false ⟨d, .load t x, ty, pos, af, g⟩ env os (avs.getD i .any) :=
  .of_runb fun _ w gs tm hr => by
    have hh := hr.ev x
    rw [hx] at hh
    generalize hv : Act.eval ⟨tm, []⟩ x = v at hh
    cases hh with
    | optr hg =>
      obtain ⟨cs, a1, a2, a3, a4, a5, a6, a7⟩ := hr.ho _ _ _ hg hs
      refine ⟨_, a7 i, fun w' hw' => ?_⟩
      have hi' : i < cs.length := by omega
      have hcell := below_cell hw' (u := cs.getD i undef) (by rw [cell_of_row w _ i _ T (0, 0) a1]; simp [List.getD_eq_getElem?_getD, hi'])
      simp only [execOp, hv, Sem.run_bind, run_load_cell hcell, Result.andThen_ok, Sem.run_pure]
/-- A whole variable of a struct's type. -/
theorem q_load_str {t : TypeId} {n : Nat} {zs : List Value} [ht : TStruct P t n zs] {x : Operand} {h : Nat} {T : TypeId} {avs : List AV} (hx : AV.ev env x = .optr h 0) (hs : os[h]? = some (.bx T avs)) (hn : avs.length = n) :
    QOp P false ⟨d, .load t x, ty, pos, af, g⟩ env os (.agg avs) :=
  .of_runb fun _ w gs tm hr => by
    have hh := hr.ev x
    rw [hx] at hh
    generalize hv : Act.eval ⟨tm, []⟩ x = v at hh
    cases hh with
    | optr hg =>
      obtain ⟨cs, a1, a2, a3, a4, a5, a6, a7⟩ := hr.ho _ _ _ hg hs
      refine ⟨_, .agg a5 a6 a7, fun w' hw' => ?_⟩
      obtain ⟨fs, hu, hag⟩ := ht.und
      obtain ⟨ii, hi, hsz, _⟩ := ht.info
      have hblk := (hw'.block _ (Array.getElem?_eq_some_iff.1 a1).1).trans a1
      have := run_loadVar_row (P := P) w' _ T t cs.toArray (0, 0) _ hblk hu (by cases fs <;> first | rfl | (simp at hag)) (by rw [hi]; simp [hsz, a5, hn])
      simp only [execOp, hv, Instr.loadAt, Instr.sureAddr, Sem.run_bind, Sem.run_pure, Result.andThen_ok, this]
theorem q_fieldAddr {t : TypeId} {f off : Nat} [ht : TField P t f off] {x : Operand} {h i : Nat} (hx : AV.ev env x = .optr h i) : QOp P wl ⟨d, .fieldAddr t x f, ty, pos, af, g⟩ env os (.optr h (i + off)) :=
  .of_run fun _ w gs tm hr => by
    have hh := hr.ev x
    rw [hx] at hh
    generalize hv : Act.eval ⟨tm, []⟩ x = v at hh
    cases hh with
    | optr hg =>
      refine ⟨_, .optr hg, fun w' hw' => ?_⟩
      obtain ⟨fs, fd, ii, h1, h2, h3, h4, h5, _⟩ := ht.fld
      simp [execOp, hv, Instr.fieldAt, run_underlying h1, h2, Instr.sureAddr, fieldPlace, sizeOf, typeInfo, h4, h5, h3, add_none]
theorem q_field {t : TypeId} {f off : Nat} [ht : TField P t f off] {x : Operand} {l : List AV} (hx : AV.ev env x = .agg l) (ho : off < l.length) : QOp P wl ⟨d, .field t x f, ty, pos, af, g⟩ env os (l.getD off .any) :=
  .of_run fun _ w gs tm hr => by
    have hh := hr.ev x
    rw [hx] at hh
    generalize hv : Act.eval ⟨tm, []⟩ x = v at hh
    cases hh with
    | @agg vs _ a1 _ a2 =>
      refine ⟨_, a2 off, fun w' hw' => ?_⟩
      obtain ⟨fs, fd, ii, h1, h2, h3, h4, h5, dd, h6, h7⟩ := ht.fld
      have hagg : (isAgg fd.type).run P w' = .ok false w' := by
        unfold isAgg
        rw [Sem.run_bind, run_underlying h6 w']
        cases dd <;> simp_all
      have hlt : off < vs.length := by omega
      simp [execOp, hv, Instr.field, run_underlying h1, h2, asAgg, part, hagg, h3, hlt, List.getD_eq_getElem?_getD]
end

end Go.Proofs.Ytlkhcelodcneiaa
/-
  Contracts of functions over abstract values, and calls by contract. No condition.
-/
namespace Go.Proofs.Ytlkhcelodcneiaa
open Go Go.RowKit

def RVs (w : World) (args : List AV) (vs : Array Value) : Prop := vs.size = args.length ∧ ∀ i : Nat, RV w (fun _ => True) [] (vs.getD i undef) (args.getD i .any)

def HasBody (P : Program) (f : FuncId) : Prop := ∃ fn c, P.funcs[f]? = some fn ∧ (fn.name == "runtime.NumGoroutine") = false ∧ fn.body = some c

theorem HasBody.run {P : Program} {f : FuncId} (h : HasBody P f) (args : Array Value) (w : World) : (callFunc f args).run P w = .ok (.enter f args) w := by
  obtain ⟨fn, c, h1, h2, h3⟩ := h
  have h2' : ¬ fn.name = "runtime.NumGoroutine" := by simpa using h2
  simp [callFunc, h1, h2', h3]

/-- The function hands back the plain value v; it leaves what was there. -/
def AFnV (P : Program) (f : FuncId) (args : List AV) (v : Value) : Prop :=
  HasBody P f ∧ ∀ w vs, RVs w args vs → Calls P f vs w fun e w' => e = .returned v ∧ Below w.heap.size w w'

/-- New objects in new memory, from 'base' on. -/
structure NewObjs (base : Nat) (w : World) (gs : List Gh) (os : List AO) : Prop where
  hl : gs.length = os.length
  ho : ∀ (h : Nat) g o, gs[h]? = some g → os[h]? = some o → RO base w (fun b => base ≤ b ∧ okOf gs os b) gs g o
  hd : ∀ (h k : Nat) g g' o o', h ≠ k → gs[h]? = some g → gs[k]? = some g' → os[h]? = some o → os[k]? = some o' → o ≠ .dead → o' ≠ .dead → ∀ b, b ∈ g.bl → b ∉ g'.bl
  hn : ∀ (h : Nat) g o, gs[h]? = some g → os[h]? = some o → o ≠ .dead → ∀ b, b ∈ g.bl → base ≤ b ∧ b < w.heap.size

/-- The function hands back r over the new objects os, of which Q speaks; it leaves what was there. -/
def AFn (P : Program) (f : FuncId) (args : List AV) (Q : AV → List AO → Prop) : Prop :=
  HasBody P f ∧ ∀ w vs, RVs w args vs → Calls P f vs w fun e w' => ∃ v r os gs, e = .returned v ∧ Q r os ∧ Below w.heap.size w w' ∧ NewObjs w.heap.size w' gs os ∧
    RV w' (fun b => w.heap.size ≤ b ∧ okOf gs os b) gs v r

/-! ### Handing values to a callee -/
/-- 'a' reads as 'r', where only the handles 'hs' lie behind it. -/
def Reads (os : List AO) (hs : List Nat) (a : AV) (r : Ro) : Prop := ∀ base w gs (ok : Nat → Prop), (∀ (h : Nat) g o, gs[h]? = some g → os[h]? = some o → RO base w (okOf gs os) gs g o) →
  (∀ h, h ∈ hs → ∀ g o, gs[h]? = some g → os[h]? = some o → o ≠ .dead → ∀ b, b ∈ g.bl → ok b) → Keeps (okOf gs os) ok w w → ∀ v, RV w (okOf gs os) gs v a → r.p w ok v
inductive Imm (os : List AO) : AV → AV → Prop
  | any (a : AV) : Imm os a .any
  | val (v : Value) : Imm os (.val v) (.val v)
  | ints (xs : List Int) : Imm os (.ints xs) (.ints xs)
  | intss (xss : List (List Int)) : Imm os (.intss xss) (.intss xss)
  | ro (r : Ro) : Imm os (.ro r) (.ro r)
  | sem (hs : List Nat) {a : AV} {r : Ro} : Reads os hs a r → Imm os a (.ro r)
  | nil : Imm os (.val (.slice none 0 0)) (.ints [])
  | nils : Imm os (.val (.slice none 0 0)) (.intss [])
  | sli {h : Nat} {e : TypeId} {xs : List Int} : os[h]? = some (.sli e xs) → Imm os (.own h) (.ints xs)
  | osub {h off len : Nat} {e : TypeId} {xs : List Int} : os[h]? = some (.sli e xs) → off + len ≤ xs.length → Imm os (.osub h off len) (.ints ((xs.drop off).take len))
  | sls {h : Nat} {e e2 : TypeId} {xss : List (List Int)} : os[h]? = some (.sls e e2 xss) → Imm os (.own h) (.intss xss)
  | orow {h i : Nat} {e e2 : TypeId} {xss : List (List Int)} : os[h]? = some (.sls e e2 xss) → Imm os (.orow h i) (.ints (xss.getD i []))
  | agg {l l' : List AV} : l.length = l'.length → (∀ i : Nat, Imm os (l.getD i .any) (l'.getD i .any)) → Imm os (.agg l) (.agg l')

theorem RowAt.of_owns {w : World} {base : Nat} {e : TypeId} {v : Value} {n : Nat} {vs : List Value} (h : w.ownsRow base e 1 v n vs) : RowAt w (fun _ => True) v vs := by
  have hl : vs.length = n := by simpa using h.1
  rcases h.2 with ⟨rfl, rfl⟩ | ⟨g, cap, cur, rfl, hb, hg, hnc, hcm, hcs, htake⟩
  · exact ⟨none, 0, by rw [hl], by omega, by simp [maxLen], fun h0 => by omega⟩
  · refine ⟨some ⟨g, 0, none⟩, cap, by rw [hl], by omega, hcm, fun _ => ⟨g, 0, rfl, trivial, fun i u hu => ?_⟩⟩
    have h' : w.ownsRow base e 1 (.slice (some ⟨g, 0, none⟩) n cap) n vs := ⟨h.1, .inr ⟨g, cap, cur, rfl, hb, hg, hnc, hcm, hcs, htake⟩⟩
    have hi := (List.getElem?_eq_some_iff.1 hu).1
    rw [Nat.zero_add, h'.cellAt i (by omega)]
    exact hu

theorem RowAt.nil {w : World} {ok : Nat → Prop} : RowAt w ok (.slice none 0 0) [] := ⟨none, 0, rfl, Nat.le_refl _, by simp [maxLen], fun h => by simp at h⟩
theorem IntsAt.nil {w : World} {ok : Nat → Prop} : IntsAt w ok (.slice none 0 0) [] := ⟨RowAt.nil, fun _ h => by cases h⟩
theorem IntssAt.nil {w : World} {ok : Nat → Prop} : IntssAt w ok (.slice none 0 0) [] := ⟨[], RowAt.nil, rfl, fun i u h => by simp at h⟩

theorem Imm.rv {base : Nat} {w : World} {gs : List Gh} {env : Env} {os : List AO} {tm : Array Value} (hr : Rel base w gs env os tm) {a a' : AV} (h : Imm os a a') :
    ∀ {v : Value}, RV w (okOf gs os) gs v a → RV w (fun _ => True) [] v a' := by
  have kp : Keeps (okOf gs os) (fun _ => True) w w := fun _ _ _ => ⟨trivial, rfl⟩
  induction h with
  | any a => intro v _; exact .any v
  | val v => intro v hv; cases hv; exact .val _
  | ints xs => intro v hv; cases hv with | ints h1 => exact .ints (h1.mono kp)
  | intss xss => intro v hv; cases hv with | intss h1 => exact .intss (h1.mono kp)
  | ro r => intro v hv; cases hv with | ro h1 => exact .ro (r.up kp h1)
  | sem hs h1 => intro v hv; exact .ro (h1 base w gs _ hr.ho (fun _ _ _ _ _ _ _ _ _ => trivial) kp v hv)
  | nil => intro v hv; cases hv; exact .ints IntsAt.nil
  | nils => intro v hv; cases hv; exact .intss IntssAt.nil
  | sli h1 => intro v hv; cases hv with | own hg =>
      obtain ⟨a1, a2, _⟩ := hr.ho _ _ _ hg h1
      exact .ints ⟨RowAt.of_owns a1, a2⟩
  | @osub h off len e xs h1 hle => intro v hv; cases hv with | osub hg hp hc hm =>
      obtain ⟨a1, a2, a3⟩ := hr.ho _ _ _ hg h1
      have hl : (((xs.drop off).take len).map (Value.int .i64)).length = len := by simp; omega
      refine .ints ⟨⟨_, _, by rw [hl], by omega, hm, fun h0 => ?_⟩, fun x hx => a2 x (List.mem_of_mem_drop (List.mem_of_mem_take hx))⟩
      rw [hl] at h0
      refine ⟨_, off, hp h0, trivial, fun i u hu => ?_⟩
      have hi := (List.getElem?_eq_some_iff.1 hu).1
      rw [hl] at hi
      obtain ⟨b, cap', e1, e2, e3, _⟩ := own_slice a1 (i := off + i) (by simp; omega)
      rw [a3.eq e2, e3, ← hu, List.map_take, List.map_drop, List.getElem?_take, if_pos hi, List.getElem?_drop]
  | sls h1 => intro v hv; cases hv with | own hg =>
      obtain ⟨vs, bs, mb, a1, a2, a3, a4, a5, _⟩ := hr.ho _ _ _ hg h1
      exact .intss ⟨vs, RowAt.of_owns a1, a2, fun i u hu => ⟨RowAt.of_owns (a5 i u hu).1, (a5 i u hu).2.1⟩⟩
  | orow h1 => intro v hv; cases hv with | orow hg hrow =>
      obtain ⟨vs, bs, mb, a1, a2, a3, a4, a5, _⟩ := hr.ho _ _ _ hg h1
      rw [a4] at hrow
      exact .ints ⟨RowAt.of_owns (a5 _ _ hrow).1, (a5 _ _ hrow).2.1⟩
  | agg h1 _ ih => intro v hv; cases hv with | agg h2 h4 h3 => exact .agg (by omega) h4 fun i => ih i (h3 i)

def Imms (os : List AO) : List AV → List AV → Prop
  | [], [] => True
  | a :: as0, b :: bs => Imm os a b ∧ Imms os as0 bs
  | _, _ => False

theorem Imms.get {os : List AO} : ∀ {l l' : List AV}, Imms os l l' → l.length = l'.length ∧ ∀ i : Nat, Imm os (l.getD i .any) (l'.getD i .any)
  | [], [], _ => ⟨rfl, fun i => .any _⟩
  | a :: as0, b :: bs, h => by
    obtain ⟨h1, h2⟩ := h
    have ih := Imms.get h2
    refine ⟨by simp [ih.1], fun i => ?_⟩
    cases i with
    | zero => simpa using h1
    | succ i => simpa using ih.2 i
  | [], _ :: _, h => h.elim
  | _ :: _, [], h => h.elim

theorem Imm.aggs {os : List AO} {l l' : List AV} (h : Imms os l l') : Imm os (.agg l) (.agg l') := .agg h.get.1 h.get.2

theorem Imms.rvs {base : Nat} {w : World} {gs : List Gh} {env : Env} {os : List AO} {tm : Array Value} (hr : Rel base w gs env os tm) {xs : List Operand} {args : List AV} (h : Imms os (xs.map (AV.ev env)) args) :
    RVs w args (xs.map (Act.eval ⟨tm, []⟩)).toArray := by
  have hg := h.get
  refine ⟨by simpa using hg.1, fun i => ?_⟩
  have h1 := hg.2 i
  have e1 : (xs.map (AV.ev env)).getD i .any = match xs[i]? with | some x => AV.ev env x | none => .any := by
    simp only [List.getD_eq_getElem?_getD, List.getElem?_map]; cases xs[i]? <;> rfl
  have e2 : (xs.map (Act.eval ⟨tm, []⟩)).toArray.getD i undef = match xs[i]? with | some x => Act.eval ⟨tm, []⟩ x | none => undef := by
    simp only [Array.getD_eq_getD_getElem?, List.getElem?_toArray, List.getElem?_map]; cases xs[i]? <;> rfl
  rw [e1] at h1
  rw [e2]
  cases hx : xs[i]? with
  | some x => rw [hx] at h1; exact h1.rv hr (hr.ev x)
  | none => rw [hx] at h1; exact h1.rv hr (.any _)

section
variable {P : Program} {env : Env} {os : List AO} {d : Option Tmp} {ty : TypeId} {pos : String} {af : Array Edge} {g : Option (Nat × Bool)}

theorem run_call {P : Program} {d : Option Tmp} {ty : TypeId} {pos : String} {af : Array Edge} {g : Option (Nat × Bool)} {f : FuncId} (hb : HasBody P f) (xs : List Operand) (ats : Array TypeId) (ρ : Operand → Value) (hρ : ρ (.func f) = .func (.func f) #[] #[]) (w : World) :
    (execOp ρ ⟨d, .call { callee := .value (.func f), args := xs.toArray, argTypes := ats }, ty, pos, af, g⟩).run P w = .ok (.enter f (xs.map ρ).toArray) w := by
  have := hb.run (xs.map ρ).toArray w
  simp only [execOp, resolve, hρ, Deferred.ofValue, Sem.run_bind, Sem.run_pure, Result.andThen_ok, invoke, List.map_toArray]
  simpa using this

theorem q_call {f : FuncId} {args : List AV} {v : Value} (hc : AFnV P f args v) {xs : List Operand} {ats : Array TypeId} (hi : Imms os (xs.map (AV.ev env)) args) :
    QOp P false ⟨d, .call { callee := .value (.func f), args := xs.toArray, argTypes := ats }, ty, pos, af, g⟩ env os (.val v) := by
  intro base w gs tm hr
  refine ⟨v, .val v, fun e => (by cases e), fun w' hw' => ?_⟩
  unfold Oper.quietAt
  rw [run_call hc.1 xs ats _ rfl]
  refine ⟨rfl, (hc.2 w' _ (hi.rvs (hr.below (hw' rfl)))).mono ?_⟩
  rintro e w'' ⟨rfl, hb⟩
  exact ⟨rfl, fun _ => (hw' rfl).trans (hb.mono (hw' rfl).size)⟩

/-! ### Results -/
def ResIs (P : Program) (fn : Func) (env : Env) (os : List AO) (a : AV) : Prop :=
  ∀ base w gs tm, Rel base w gs env os tm → ∃ v, (results fn tm).run P w = .ok v w ∧ RV w (okOf gs os) gs v a

theorem ResIs.t1 {fn : Func} {t : Tmp} (h : fn.results = #[.tmp t]) : ResIs P fn env os (env.lk t) :=
  fun _ _ _ tm hr => ⟨_, results_tmp h tm P _, hr.he t⟩
theorem ResIs.t2 {fn : Func} {t u : Tmp} (h : fn.results = #[.tmp t, .tmp u]) : ResIs P fn env os (.tup [env.lk t, env.lk u]) :=
  fun _ _ _ tm hr => ⟨_, results_tmp2 h tm P _, .tup (vs := [tm.getD t undef, tm.getD u undef]) rfl fun i => by
    match i with
    | 0 => exact hr.he t
    | 1 => exact hr.he u
    | i + 2 => exact .any _⟩
theorem ResIs.v2 {fn : Func} {t u : Tmp} (h : fn.results = #[.tmp t, .tmp u]) {a b : Value} (ha : env.lk t = .val a) (hb : env.lk u = .val b) : ResIs P fn env os (.val (.tuple #[a, b])) :=
  fun _ _ _ tm hr => ⟨_, results_tmp2 h tm P _, by rw [(hr.he t).val_eq ha, (hr.he u).val_eq hb]; exact .val _⟩
theorem ResIs.v3 {fn : Func} {t u s : Tmp} (h : fn.results = #[.tmp t, .tmp u, .tmp s]) {a b c : Value} (ha : env.lk t = .val a) (hb : env.lk u = .val b) (hc : env.lk s = .val c) :
    ResIs P fn env os (.val (.tuple #[a, b, c])) :=
  fun _ _ _ tm hr => ⟨.tuple #[tm.getD t undef, tm.getD u undef, tm.getD s undef], by simp [results, h], by rw [(hr.he t).val_eq ha, (hr.he u).val_eq hb, (hr.he s).val_eq hc]; exact .val _⟩

theorem res_cell {T : TypeId} {n : Nat} {zs : List Value} [ht : TStruct P T n zs] {p : Tmp} {h : Nat} {T' : TypeId} {avs : List AV} (hp : env.lk p = .optr h 0) (hs : os[h]? = some (.bx T' avs)) (hn : avs.length = n)
    {base : Nat} {w : World} {gs : List Gh} {tm : Array Value} (hr : Rel base w gs env os tm) :
    ∃ b cs, tm.getD p undef = .pointer (some ⟨b, 0, none⟩) ∧ (loadVar T ⟨b, 0, none⟩).run P w = .ok (.agg cs) w ∧ RV w (okOf gs os) gs (.agg cs) (.agg avs) := by
  have hh := hr.he p
  rw [hp] at hh
  generalize hv : tm.getD p undef = v at hh
  cases hh with
  | @optr _ _ gh hg =>
    obtain ⟨cs, a1, a2, a3, a4, a5, a6, a7⟩ := hr.ho _ _ _ hg hs
    obtain ⟨fs, hu, hag⟩ := ht.und
    obtain ⟨ii, hi, hsz, _⟩ := ht.info
    exact ⟨gh.b, cs.toArray, rfl, run_loadVar_row (P := P) w _ T' T cs.toArray (0, 0) _ a1 hu (by cases fs <;> first | rfl | (simp at hag)) (by rw [hi]; simp [hsz, a5, hn]), .agg a5 a6 a7⟩

theorem ResIs.c1 {fn : Func} {p : Tmp} {T : TypeId} (h : fn.results = #[.cell p T]) {n : Nat} {zs : List Value} [ht : TStruct P T n zs] {k : Nat} {T' : TypeId} {avs : List AV} (hp : env.lk p = .optr k 0) (hs : os[k]? = some (.bx T' avs)) (hn : avs.length = n) :
    ResIs P fn env os (.agg avs) := by
  intro base w gs tm hr
  obtain ⟨b, cs, e1, e2, e3⟩ := res_cell (P := P) (T := T) hp hs hn hr
  have e1' : tm[p]?.getD undef = .pointer (some ⟨b, 0, none⟩) := by simpa using e1
  exact ⟨.agg cs, by simp [results, h, e1', asAddr, e2], e3⟩
theorem ResIs.c1t {fn : Func} {p u : Tmp} {T : TypeId} (h : fn.results = #[.cell p T, .tmp u]) {n : Nat} {zs : List Value} [ht : TStruct P T n zs] {k : Nat} {T' : TypeId} {avs : List AV} (hp : env.lk p = .optr k 0) (hs : os[k]? = some (.bx T' avs)) (hn : avs.length = n) :
    ResIs P fn env os (.tup [.agg avs, env.lk u]) := by
  intro base w gs tm hr
  obtain ⟨b, cs, e1, e2, e3⟩ := res_cell (P := P) (T := T) hp hs hn hr
  have e1' : tm[p]?.getD undef = .pointer (some ⟨b, 0, none⟩) := by simpa using e1
  refine ⟨.tuple #[.agg cs, tm.getD u undef], by simp [results, h, e1', asAddr, e2], .tup (vs := [.agg cs, tm.getD u undef]) rfl fun i => ?_⟩
  match i with
  | 0 => exact e3
  | 1 => exact hr.he u
  | i + 2 => exact .any _

/-! ### From a body to a contract -/
def enumF : Nat → List AV → List (Nat × AV)
  | _, [] => []
  | k, a :: as0 => (k, a) :: enumF (k + 1) as0
/-- The slots as a call begins. -/
def Env.start (args : List AV) (n : Nat) : Env := ⟨args.length + n, enumF 0 args⟩
theorem fdm_enumF (args : List AV) : ∀ (j k : Nat), j ≤ k → fdm (enumF j args) k = args[k - j]? := by
  induction args with
  | nil => intro j k _; rfl
  | cons a as0 ih =>
    intro j k hjk
    simp only [enumF, fdm]
    by_cases h : j = k
    · subst h
      simp
    · have h1 : Nat.beq j k = false := by rw [Bool.eq_false_iff]; intro h4; exact h (Nat.eq_of_beq_eq_true h4)
      rw [h1, cond_false, ih (j + 1) k (by omega)]
      have : k - j = (k - (j + 1)) + 1 := by omega
      rw [this, List.getElem?_cons_succ]

theorem Rel.start {w : World} {args : List AV} {vs : Array Value} (h : RVs w args vs) (n : Nat) :
    Rel w.heap.size w [] (Env.start args n) [] (vs ++ Array.replicate n undef) where
  hb := Nat.le_refl _
  hl := rfl
  hs := by simp [h.1, Env.start]
  he i := by
    have e1 : (Env.start args n).lk i = args.getD i .any := by
      simp only [Env.lk, Env.fd, Env.start, fdm_enumF args 0 i (Nat.zero_le _), Nat.sub_zero]
      rw [List.getD_eq_getElem?_getD]
      cases hb : Nat.blt i (args.length + n) with
      | true => rfl
      | false =>
        have : ¬ i < args.length + n := by intro h4; rw [← Nat.blt_eq, hb] at h4; cases h4
        rw [List.getElem?_eq_none (by omega)]; rfl
    have e2 : (vs ++ Array.replicate n undef).getD i undef = vs.getD i undef := by
      simp only [Array.getD_eq_getD_getElem?, Array.getElem?_append]
      split
      · rfl
      · rename_i hi
        rw [Array.getElem?_eq_none (Nat.le_of_not_lt hi), Array.getElem?_replicate]
        split <;> rfl
    rw [e1, e2]
    exact (h.2 i).mono (fun b _ _ => ⟨fun k g o hg => by simp at hg, rfl⟩) (fun _ _ e => e)
  ho k g o hg := by simp at hg
  hd h k g g' o o' _ hg := by simp at hg
  hn h g o hg := by simp at hg

theorem AFnV.of {f : FuncId} {fn : Func} {c : Code} {args : List AV} {v : Value} {n : Nat} (hf : P.funcs[f]? = some fn) (hb : fn.body = some c) (hnm : (fn.name == "runtime.NumGoroutine") = false) (hn : fn.ntmps - args.length = n)
    (h : AWp P c (fun _ _ => False) (fun _ _ _ => False) (fun env os => ResIs P fn env os (.val v)) (Env.start args n) []) : AFnV P f args v := by
  refine ⟨⟨fn, c, hf, hnm, hb⟩, fun w vs hvs => calls_of_wp hf hb ?_⟩
  rw [show fn.ntmps - vs.size = n by rw [hvs.1]; exact hn]
  refine wp_mono (h w.heap.size w w [] _ (Rel.start hvs n) (Below.refl _ _)) ?_
  intro e a w' hq
  cases e with
  | normal => obtain ⟨_, _, _, _, _, _, hx⟩ := hq; exact hx.elim
  | exit j => obtain ⟨_, _, _, _, _, _, hx⟩ := hq; exact hx.elim
  | ret =>
    obtain ⟨env, os, gs, hr, hd, hbel, hx⟩ := hq
    obtain ⟨u, hu, hv⟩ := hx _ _ _ _ hr
    cases hv
    exact ⟨hd, v, hu, rfl, hbel⟩
  | goto l => exact (hq : False).elim
  | panic ch => exact (hq : False).elim
  | outgrown => exact (hq : False).elim

/-- The abstract value 'a' may be handed back as 'r' over the objects 'objs'. -/
def Ret1 (os : List AO) (a r : AV) (objs : List AO) : Prop :=
  ∀ base w gs env tm, Rel base w gs env os tm → ∀ v, RV w (okOf gs os) gs v a → ∃ gs', NewObjs base w gs' objs ∧ RV w (fun b => base ≤ b ∧ okOf gs' objs b) gs' v r

theorem AFn.of {f : FuncId} {fn : Func} {c : Code} {args : List AV} {Q : AV → List AO → Prop} {n : Nat} (hf : P.funcs[f]? = some fn) (hb : fn.body = some c) (hnm : (fn.name == "runtime.NumGoroutine") = false) (hn : fn.ntmps - args.length = n)
    (h : AWp P c (fun _ _ => False) (fun _ _ _ => False) (fun env os => ∃ a r objs, ResIs P fn env os a ∧ Ret1 os a r objs ∧ Q r objs) (Env.start args n) []) : AFn P f args Q := by
  refine ⟨⟨fn, c, hf, hnm, hb⟩, fun w vs hvs => calls_of_wp hf hb ?_⟩
  rw [show fn.ntmps - vs.size = n by rw [hvs.1]; exact hn]
  refine wp_mono (h w.heap.size w w [] _ (Rel.start hvs n) (Below.refl _ _)) ?_
  intro e a w' hq
  cases e with
  | normal => obtain ⟨_, _, _, _, _, _, hx⟩ := hq; exact hx.elim
  | exit j => obtain ⟨_, _, _, _, _, _, hx⟩ := hq; exact hx.elim
  | ret =>
    obtain ⟨env, os, gs, hr, hd, hbel, a', r, objs, h1, h2, h3⟩ := hq
    obtain ⟨u, hu, hv⟩ := h1 _ _ _ _ hr
    obtain ⟨gs', h4, h5⟩ := h2 _ _ _ _ _ hr u hv
    exact ⟨hd, u, hu, u, r, objs, gs', rfl, h3, hbel, h4, h5⟩
  | goto l => exact (hq : False).elim
  | panic ch => exact (hq : False).elim
  | outgrown => exact (hq : False).elim

theorem NewObjs.one {base : Nat} {w : World} {g : Gh} {o : AO} (ho : RO base w (fun b => base ≤ b ∧ okOf [g] [o] b) [g] g o) (hn : ∀ b, b ∈ g.bl → base ≤ b ∧ b < w.heap.size) : NewObjs base w [g] [o] where
  hl := rfl
  ho h g' o' hg ho' := by
    cases h with
    | zero => simp at hg ho'; subst hg; subst ho'; exact ho
    | succ h => simp at hg
  hd h k g1 g2 o1 o2 hne h1 h2 := by
    cases h with
    | zero => cases k with
      | zero => exact absurd rfl hne
      | succ k => simp at h2
    | succ h => simp at h1
  hn h g' o' hg _ _ b hb := by
    cases h with
    | zero => simp at hg; subst hg; exact hn b hb
    | succ h => simp at hg

theorem Ret1.val (v : Value) : Ret1 os (.val v) (.val v) [] := fun base w gs env tm hr u hu => by
  cases hu
  exact ⟨[], ⟨rfl, fun h g o hg => by simp at hg, fun h k g g' o o' _ hg => by simp at hg, fun h g o hg => by simp at hg⟩, .val _⟩
theorem Ret1.sli {h : Nat} {e : TypeId} {xs : List Int} (hs : os[h]? = some (.sli e xs)) : Ret1 os (.own h) (.own 0) [.sli e xs] := fun base w gs env tm hr u hu => by
  cases hu with
  | @own _ g hg => exact ⟨[g], .one (hr.ho _ _ _ hg hs) fun b hb => hr.hn _ _ _ hg hs (by simp) b hb, .own rfl⟩
theorem Ret1.sls {h : Nat} {e e2 : TypeId} {xss : List (List Int)} (hs : os[h]? = some (.sls e e2 xss)) : Ret1 os (.own h) (.own 0) [.sls e e2 xss] := fun base w gs env tm hr u hu => by
  cases hu with
  | @own _ g hg => exact ⟨[g], .one (hr.ho _ _ _ hg hs) fun b hb => hr.hn _ _ _ hg hs (by simp) b hb, .own rfl⟩
theorem Ret1.nil (e : TypeId) : Ret1 os (.val (.slice none 0 0)) (.own 0) [.sli e []] := fun base w gs env tm hr u hu => by
  cases hu
  exact ⟨[⟨.slice none 0 0, 0, [], []⟩], .one ⟨World.ownsRow_nil w base e 1, fun _ h => (by cases h), .inl ⟨rfl, rfl⟩⟩ (fun b hb => by simp at hb), .own (g := ⟨.slice none 0 0, 0, [], []⟩) rfl⟩
theorem Ret1.nils (e e2 : TypeId) : Ret1 os (.val (.slice none 0 0)) (.own 0) [.sls e e2 []] := fun base w gs env tm hr u hu => by
  cases hu
  exact ⟨[⟨.slice none 0 0, 0, [], []⟩], .one ⟨[], [], [], World.ownsRow_nil w base e 1, rfl, rfl, rfl, fun i u h => (by simp at h), .inl ⟨rfl, rfl⟩, rfl, by simp⟩ (fun b hb => by simp at hb),
    .own (g := ⟨.slice none 0 0, 0, [], []⟩) rfl⟩
end

/-! ### A call that hands back new memory -/
def AV.sh0 (n : Nat) : AV → AV
  | .own k => .own (k + n)
  | .optr k i => .optr (k + n) i
  | .osub k a b => .osub (k + n) a b
  | .orow k i => .orow (k + n) i
  | .orptr k i j => .orptr (k + n) i j
  | .agg _ => .any
  | .tup _ => .any
  | a => a
def AV.sh1 (n : Nat) : AV → AV
  | .own k => .own (k + n)
  | .optr k i => .optr (k + n) i
  | .osub k a b => .osub (k + n) a b
  | .orow k i => .orow (k + n) i
  | .orptr k i j => .orptr (k + n) i j
  | .agg l => .agg (l.map (AV.sh0 n))
  | .tup _ => .any
  | a => a
def AV.sh (n : Nat) : AV → AV
  | .own k => .own (k + n)
  | .optr k i => .optr (k + n) i
  | .osub k a b => .osub (k + n) a b
  | .orow k i => .orow (k + n) i
  | .orptr k i j => .orptr (k + n) i j
  | .agg l => .agg (l.map (AV.sh0 n))
  | .tup l => .tup (l.map (AV.sh1 n))
  | a => a
def AO.sh (n : Nat) : AO → AO
  | .bx T avs => .bx T (avs.map (AV.sh n))
  | .slr e avs => .slr e (avs.map (AV.sh n))
  | .keep _ K => .keep 0 ⟨K.snap, []⟩
  | o => o
theorem AO.sh_dead {n : Nat} {o : AO} : o.sh n = .dead ↔ o = .dead := by cases o <;> simp [AO.sh]
theorem AO.sh_live {n : Nat} {o : AO} : (o.sh n).live ↔ o.live := by cases o <;> simp [AO.sh, AO.live]

theorem getD_map_any (f : AV → AV) (hf : f .any = .any) (l : List AV) (i : Nat) : (l.map f).getD i .any = f (l.getD i .any) := by
  simp only [List.getD_eq_getElem?_getD, List.getElem?_map]
  cases l[i]? <;> simp [hf]

section
variable {w : World} {ok ok' : Nat → Prop} {gs0 gs : List Gh}
theorem get_sh {k : Nat} {g : Gh} (h : gs[k]? = some g) : (gs0 ++ gs)[k + gs0.length]? = some g := by
  rw [List.getElem?_append_right (by omega)]; simpa using h
theorem RV.sh0 (k : Keeps ok ok' w w) {v : Value} {a : AV} (hv : RV w ok gs v a) : RV w ok' (gs0 ++ gs) v (a.sh0 gs0.length) := by
  cases hv with
  | any v => exact .any v
  | val v => exact .val v
  | ints h => exact .ints (h.mono k)
  | intss h => exact .intss (h.mono k)
  | @ro v r h => exact .ro (r.up k h)
  | iptr h h1 h2 => exact .iptr (h.mono k) h1 h2
  | iiptr h h1 h2 => exact .iiptr (h.mono k) h1 h2
  | own h1 => exact .own (get_sh h1)
  | optr h1 => exact .optr (get_sh h1)
  | osub h1 h2 h3 h4 => exact .osub (get_sh h1) h2 h3 h4
  | orow h1 h2 => exact .orow (get_sh h1) h2
  | orptr h1 h2 => exact .orptr (get_sh h1) h2
  | agg _ _ _ => exact .any _
  | tup _ _ => exact .any _
theorem RV.sh1 (k : Keeps ok ok' w w) {v : Value} {a : AV} (hv : RV w ok gs v a) : RV w ok' (gs0 ++ gs) v (a.sh1 gs0.length) := by
  cases hv with
  | any v => exact .any v
  | val v => exact .val v
  | ints h => exact .ints (h.mono k)
  | intss h => exact .intss (h.mono k)
  | @ro v r h => exact .ro (r.up k h)
  | iptr h h1 h2 => exact .iptr (h.mono k) h1 h2
  | iiptr h h1 h2 => exact .iiptr (h.mono k) h1 h2
  | own h1 => exact .own (get_sh h1)
  | optr h1 => exact .optr (get_sh h1)
  | osub h1 h2 h3 h4 => exact .osub (get_sh h1) h2 h3 h4
  | orow h1 h2 => exact .orow (get_sh h1) h2
  | orptr h1 h2 => exact .orptr (get_sh h1) h2
  | agg h1 h3 h2 => exact .agg (by simpa using h1) h3 fun i => by rw [getD_map_any _ rfl]; exact (h2 i).sh0 k
  | tup _ _ => exact .any _
theorem RV.sh (k : Keeps ok ok' w w) {v : Value} {a : AV} (hv : RV w ok gs v a) : RV w ok' (gs0 ++ gs) v (a.sh gs0.length) := by
  cases hv with
  | any v => exact .any v
  | val v => exact .val v
  | ints h => exact .ints (h.mono k)
  | intss h => exact .intss (h.mono k)
  | @ro v r h => exact .ro (r.up k h)
  | iptr h h1 h2 => exact .iptr (h.mono k) h1 h2
  | iiptr h h1 h2 => exact .iiptr (h.mono k) h1 h2
  | own h1 => exact .own (get_sh h1)
  | optr h1 => exact .optr (get_sh h1)
  | osub h1 h2 h3 h4 => exact .osub (get_sh h1) h2 h3 h4
  | orow h1 h2 => exact .orow (get_sh h1) h2
  | orptr h1 h2 => exact .orptr (get_sh h1) h2
  | agg h1 h3 h2 => exact .agg (by simpa using h1) h3 fun i => by rw [getD_map_any _ rfl]; exact (h2 i).sh0 k
  | tup h1 h2 => exact .tup (by simpa using h1) fun i => by rw [getD_map_any _ rfl]; exact (h2 i).sh1 k
end

theorem Rel.join {base : Nat} {w w' : World} {gs gs' : List Gh} {env : Env} {os os' : List AO} {tm : Array Value} (h : Rel base w gs env os tm) (hb : Below w.heap.size w w') (n : NewObjs w.heap.size w' gs' os') :
    Rel base w' (gs ++ gs') env (os ++ os'.map (AO.sh gs.length)) tm ∧
      ∀ {v : Value} {r : AV}, RV w' (fun b => w.heap.size ≤ b ∧ okOf gs' os' b) gs' v r → RV w' (okOf (gs ++ gs') (os ++ os'.map (AO.sh gs.length))) (gs ++ gs') v (r.sh gs.length) := by
  have hl := h.hl
  -- where a handle of the joined state comes from
  have part : ∀ {i : Nat} {x : Gh} {y : AO}, (gs ++ gs')[i]? = some x → (os ++ os'.map (AO.sh gs.length))[i]? = some y →
      (i < gs.length ∧ gs[i]? = some x ∧ os[i]? = some y) ∨ (gs.length ≤ i ∧ gs'[i - gs.length]? = some x ∧ ∃ z, os'[i - gs.length]? = some z ∧ y = z.sh gs.length) := by
    intro i x y hx hy
    rw [List.getElem?_append] at hx hy
    split at hx
    · rename_i hi
      rw [if_pos (by omega)] at hy
      exact .inl ⟨hi, hx, hy⟩
    · rename_i hi
      rw [if_neg (by omega), List.getElem?_map, ← hl] at hy
      cases hz : os'[i - gs.length]? with
      | none => rw [hz] at hy; cases hy
      | some z => rw [hz] at hy; simp at hy; exact .inr ⟨by omega, hx, z, rfl, hy.symm⟩
  have hbl_old : ∀ {i : Nat} {x : Gh} {y : AO}, gs[i]? = some x → os[i]? = some y → y ≠ .dead → ∀ b, b ∈ x.bl → b < w.heap.size := fun hx hy hn b hb => (h.hn _ _ _ hx hy hn b hb).2
  have kold : Keeps (okOf gs os) (okOf (gs ++ gs') (os ++ os'.map (AO.sh gs.length))) w w' := by
    intro b hok hlt
    refine ⟨fun i x y hx hy hny hm => ?_, hb.block b hlt⟩
    rcases part hx hy with ⟨_, h1, h2⟩ | ⟨_, h1, z, h2, rfl⟩
    · exact hok i x y h1 h2 hny hm
    · have := (n.hn _ _ _ h1 h2 (AO.sh_live.1 hny).ne b hm).1; omega
  have knew : Keeps (fun b => w.heap.size ≤ b ∧ okOf gs' os' b) (okOf (gs ++ gs') (os ++ os'.map (AO.sh gs.length))) w' w' := by
    intro b hok hlt
    refine ⟨fun i x y hx hy hny hm => ?_, rfl⟩
    rcases part hx hy with ⟨_, h1, h2⟩ | ⟨_, h1, z, h2, rfl⟩
    · have := hbl_old h1 h2 hny.ne b hm; omega
    · exact hok.2 _ x z h1 h2 (AO.sh_live.1 hny) hm
  have gold : ∀ (i : Nat) x, gs[i]? = some x → (gs ++ gs')[i]? = some x := fun i x e => by
    rw [List.getElem?_append_left (List.getElem?_eq_some_iff.1 e).1]; exact e
  refine ⟨⟨Nat.le_trans h.hb hb.size, by simp [hl, n.hl], h.hs, fun i => (h.he i).mono kold gold, ?_, ?_, ?_⟩, fun hv => hv.sh knew⟩
  · intro i x y hx hy
    rcases part hx hy with ⟨_, h1, h2⟩ | ⟨_, h1, z, h2, rfl⟩
    · exact (h.ho i x y h1 h2).mono kold gold fun hny b hm => hb.block b (hbl_old h1 h2 hny b hm)
    · have hz := n.ho _ x z h1 h2
      have hbase : ∀ {e : TypeId} {v : Value} {m : Nat} {xs : List Value}, w'.ownsRow w.heap.size e 1 v m xs → w'.ownsRow base e 1 v m xs := by
        intro e v m xs ho
        refine ⟨ho.1, ho.2.imp id ?_⟩
        rintro ⟨g, cap, cur, e1, e2, r⟩
        exact ⟨g, cap, cur, e1, Nat.le_trans h.hb e2, r⟩
      cases z with
      | dead => trivial
      | ob q => exact q.lower h.hb hz
      | sli e xs => exact ⟨hbase hz.1, hz.2⟩
      | slr e avs =>
        obtain ⟨vs, a1, a2, a3, a4⟩ := hz
        exact ⟨vs, hbase a1, by simpa using a2, fun j => by rw [getD_map_any _ rfl]; exact (a3 j).sh knew, a4⟩
      | sls e e2 xss =>
        obtain ⟨vs, bs, mb, a1, a2, a3, a4, a5, a6⟩ := hz
        exact ⟨vs, bs, mb, hbase a1, a2, a3, a4, fun i u hu => ⟨hbase (a5 i u hu).1, (a5 i u hu).2⟩, a6⟩
      | bx T avs =>
        obtain ⟨cs, a1, a2, a3, a4, a5, a6, a7⟩ := hz
        exact ⟨cs, a1, Nat.le_trans h.hb a2, a3, a4, by simpa using a5, a6, fun j => by rw [getD_map_any _ rfl]; exact (a7 j).sh knew⟩
      | keep m K => exact ⟨hz.1, rfl, fun i x hx => by simp at hx⟩
  · intro i j g1 g2 o1 o2 hij hg1 hg2 ho1 ho2 hn1 hn2 b hb1 hb2
    rcases part hg1 ho1 with ⟨_, a1, a2⟩ | ⟨ai, a1, z1, a2, rfl⟩
    · rcases part hg2 ho2 with ⟨_, b1, b2⟩ | ⟨_, b1, z2, b2, rfl⟩
      · exact h.hd i j g1 g2 o1 o2 hij a1 b1 a2 b2 hn1 hn2 b hb1 hb2
      · have := hbl_old a1 a2 hn1 b hb1
        have := (n.hn _ _ _ b1 b2 (fun e => hn2 (AO.sh_dead.2 e)) b hb2).1; omega
    · rcases part hg2 ho2 with ⟨_, b1, b2⟩ | ⟨bj, b1, z2, b2, rfl⟩
      · have := hbl_old b1 b2 hn2 b hb2
        have := (n.hn _ _ _ a1 a2 (fun e => hn1 (AO.sh_dead.2 e)) b hb1).1; omega
      · exact n.hd _ _ g1 g2 z1 z2 (by omega) a1 b1 a2 b2 (fun e => hn1 (AO.sh_dead.2 e)) (fun e => hn2 (AO.sh_dead.2 e)) b hb1 hb2
  · intro i x y hx hy hny b hm
    rcases part hx hy with ⟨_, h1, h2⟩ | ⟨_, h1, z, h2, rfl⟩
    · have := h.hn i x y h1 h2 hny b hm
      exact ⟨this.1, Nat.lt_of_lt_of_le this.2 hb.size⟩
    · have := n.hn _ x z h1 h2 (fun e => hny (AO.sh_dead.2 e)) b hm
      exact ⟨Nat.le_trans h.hb this.1, this.2⟩

section
variable {P : Program} {env : Env} {os : List AO} {d : Option Tmp} {ty : TypeId} {pos : String} {af : Array Edge} {g : Option (Nat × Bool)}
theorem c_call {f : FuncId} {args : List AV} {Q : AV → List AO → Prop} (hc : AFn P f args Q) {xs : List Operand} {ats : Array TypeId} (hi : Imms os (xs.map (AV.ev env)) args) :
    COp P ⟨d, .call { callee := .value (.func f), args := xs.toArray, argTypes := ats }, ty, pos, af, g⟩ env os (fun r e o => ∃ r0 os0, Q r0 os0 ∧ r = r0.sh os.length ∧ e = env ∧ o = os ++ os0.map (AO.sh os.length)) := by
  intro base w gs tm hr
  refine ⟨f, _, run_call hc.1 xs ats _ rfl w, (hc.2 w _ (hi.rvs hr)).mono ?_⟩
  rintro e w' ⟨v, r, os', gs', rfl, hq, hb, hn, hv⟩
  have j := hr.join hb hn
  rw [hr.hl] at j
  exact ⟨v, _, _, _, _, rfl, ⟨r, os', hq, rfl, rfl, rfl⟩, j.1, j.2 hv, hb.mono hr.hb⟩
end

end Go.Proofs.Ytlkhcelodcneiaa
/-
  From a row's readings of the arguments to abstract arguments. No condition.
-/
namespace Go.Proofs.Ytlkhcelodcneiaa
open Go Go.RowKit Go.ChangeShapes Go.WideShapes Go.Deep

theorem wf_inI {n : Int} (h : (Lit.int .i64 n).wf = true) : inI n := by
  simp only [Lit.wf, Bool.and_eq_true, decide_eq_true_eq] at h
  exact ⟨by have := h.1; simpa [IntKind.min, IntKind.signed, IntKind.bits] using this, by have := h.2; simpa [IntKind.max, IntKind.signed, IntKind.bits] using this⟩

theorem intsAt_of {w : World} {A : Option Addr} {L C : Nat} {zs : List Int} (h1 : L ≤ C) (h2 : C ≤ maxLen) (hl : L ≤ zs.length)
    (hA : A = none → L = 0) (hc : ∀ a, A = some a → ∀ i, i < L → w.cell? (a.add i) = some (.int .i64 (zs.getD i 0))) (hw : ∀ n ∈ zs, (Lit.int .i64 n).wf = true) :
    IntsAt w (fun _ => True) (.slice A L C) (zs.take L) := by
  have e : ((zs.take L).map (Value.int .i64)).length = L := by simp; omega
  refine ⟨⟨A, C, by rw [e], by omega, h2, fun hp => ?_⟩, fun x hx => wf_inI (hw x (List.mem_of_mem_take hx))⟩
  rw [e] at hp
  cases A with
  | none => have := hA rfl; omega
  | some a =>
    obtain ⟨b, o, sp⟩ := a
    have h0 := hc _ rfl 0 hp
    have hs : sp = none := Go.Proofs.cell_spot h0
    subst hs
    refine ⟨b, o, rfl, trivial, fun i u hu => ?_⟩
    have hi := (List.getElem?_eq_some_iff.1 hu).1
    rw [e] at hi
    have hci := hc _ rfl i hi
    rw [← Addr.add_lit, hci]
    rw [List.getElem?_map, List.getElem?_take_of_lt hi] at hu
    rw [List.getD_eq_getElem?_getD]
    cases hz : zs[i]? with
    | none => rw [hz] at hu; cases hu
    | some z => rw [hz] at hu; simpa using hu

section
variable {H : Type} {enc : TypeId × Value → H} {P : Program} {w : World} {base : Nat} {held : Bool}

theorem trod_ints {t e : TypeId} {fuel : Nat} {v : Value} {x : DataW H × List MemPlace} (ht : P.underlying t = some (.slice e)) (he : P.underlying e = some (.int .i64)) (hc : P.cellsOf e = 1)
    (h : DataW.trod enc P w base (fun _ => true) held fuel t [v] = some x) : ∃ xs, IntsAt w (fun _ => True) v xs := by
  rcases open_ints ht he hc h with ⟨hv, _⟩ | ⟨a, len, cap, zs, hv, _, hl, hm, hz, _, hcell, hw⟩
  · obtain rfl : v = _ := (List.cons.inj hv).1
    exact ⟨_, intsAt_of (zs := []) (Nat.le_refl _) (by simp [maxLen]) (Nat.le_refl _) (fun _ => rfl) (fun a ha => by cases ha) (fun n hn => by cases hn)⟩
  · obtain rfl : v = _ := (List.cons.inj hv).1
    simp only [if_true] at hz
    refine ⟨_, intsAt_of (zs := zs) hl hm (by omega) (fun ha => by cases ha) (fun a' ha i hi => ?_) hw⟩
    cases ha
    exact hcell i (by omega)

theorem trod_intss {t e q : TypeId} {fuel : Nat} {v : Value} {x : DataW H × List MemPlace} (ht : P.underlying t = some (.slice e)) (he : P.underlying e = some (.slice q)) (hq : P.underlying q = some (.int .i64))
    (ce : P.cellsOf e = 1) (cq : P.cellsOf q = 1) (h : DataW.trod enc P w base (fun _ => true) held fuel t [v] = some x) : ∃ xss, IntssAt w (fun _ => True) v xss := by
  rcases open_int_rows ht he hq ce cq h with ⟨hv, _⟩ | ⟨a, len, cap, A, L, C, Z, hv, _, hl, hm, _, hr⟩
  · obtain rfl : v = _ := (List.cons.inj hv).1
    exact ⟨[], [], ⟨none, 0, rfl, Nat.le_refl _, by simp [maxLen], fun hp => by cases hp⟩, rfl, fun i u hu => by cases hu⟩
  · obtain rfl : v = _ := (List.cons.inj hv).1
    refine ⟨(List.range len).map fun r => (Z r).take (L r), (List.range len).map fun r => Value.slice (A r) (L r) (C r), ?_, by simp, ?_⟩
    · have e : ((List.range len).map fun r => Value.slice (A r) (L r) (C r)).length = len := by simp
      refine ⟨some a, cap, by rw [e], by omega, hm, fun hp => ?_⟩
      rw [e] at hp
      obtain ⟨b, o, sp⟩ := a
      have hs : sp = none := Go.Proofs.cell_spot (hr 0 (by omega)).1
      subst hs
      refine ⟨b, o, rfl, trivial, fun i u hu => ?_⟩
      have hi := (List.getElem?_eq_some_iff.1 hu).1
      rw [e] at hi
      have hci := (hr i (by omega)).1
      rw [← Addr.add_lit, hci]
      simp [hi] at hu
      rw [hu]
    · intro i u hu
      have hi := (List.getElem?_eq_some_iff.1 hu).1
      simp at hi
      simp [hi] at hu
      subst hu
      obtain ⟨_, h1, h2, h3, h4, h5, h6⟩ := hr i (by omega)
      have := intsAt_of (w := w) (A := A i) (L := L i) (C := C i) (zs := Z i) h1 h2 (by omega) (fun ha => by have := h5 ha; omega) (fun a' ha j hj => (h6 a' ha).2 j (by omega)) h4
      simpa [hi] using this

/-! ### Whole arguments -/

theorem arg_int {t : TypeId} {v : Value} {d : DataW H} {ps : List MemPlace} (ht : P.underlying t = some (.int .i64)) (hval : Value.okWide P w .any 0 t v) (hd : DataW.Trod enc P w base (fun _ => true) held t v d ps) :
    ∃ n, inI n ∧ RV w (fun _ => True) [] v (.i n) := by
  obtain ⟨n, rfl, _, _, hw⟩ := open_int ht hval hd
  exact ⟨n, wf_inI hw, .val _⟩

theorem rv_agg2 {v0 v1 : Value} {a0 a1 : AV} (o0 : v0.oneCell' = true) (o1 : v1.oneCell' = true) (h0 : RV w (fun _ => True) [] v0 a0) (h1 : RV w (fun _ => True) [] v1 a1) : RV w (fun _ => True) [] (.agg #[v0, v1]) (.agg [a0, a1]) := by
  refine RV.agg (vs := [v0, v1]) rfl ?_ ?_
  · intro v hv
    simp at hv
    rcases hv with rfl | rfl <;> assumption
  · intro i
    match i with
    | 0 => exact h0
    | 1 => exact h1
    | n + 2 => exact .any _

theorem IntsAt.oneCell {w : World} {ok : Nat → Prop} {v : Value} {xs : List Int} (h : IntsAt w ok v xs) : v.oneCell' = true := by
  obtain ⟨⟨a, c, rfl, _⟩, _⟩ := h; rfl
theorem IntssAt.oneCell {w : World} {ok : Nat → Prop} {v : Value} {xs : List (List Int)} (h : IntssAt w ok v xs) : v.oneCell' = true := by
  obtain ⟨vs, ⟨a, c, rfl, _⟩, _⟩ := h; rfl

/-- A struct of a []int64 and a [][]int64. -/
theorem arg_ints_intss {t : TypeId} {f0 f1 : Field} {e e1 q : TypeId} {v : Value} {d : DataW H} {ps : List MemPlace} (hs : P.underlying t = some (.struct #[f0, f1])) (hone : oneCellFields P #[f0, f1] = true) (hC : P.cellsOf t = 2)
    (h0 : P.underlying f0.type = some (.slice e)) (he : P.underlying e = some (.int .i64)) (ce : P.cellsOf e = 1) (h1 : P.underlying f1.type = some (.slice e1)) (he1 : P.underlying e1 = some (.slice q)) (hq : P.underlying q = some (.int .i64)) (ce1 : P.cellsOf e1 = 1) (cq : P.cellsOf q = 1)
    (hval : Value.okWide P w .any 0 t v) (hd : DataW.Trod enc P w base (fun _ => true) held t v d ps) : ∃ xs xss, RV w (fun _ => True) [] v (.agg [.ints xs, .intss xss]) := by
  obtain ⟨v0, v1, y0, y1, k, rfl, _, _, t0, t1⟩ := Go.Joins.open_agg2 hs hone hC hval hd
  obtain ⟨xs, hx⟩ := trod_ints h0 he ce t0
  obtain ⟨xss, hxs⟩ := trod_intss h1 he1 hq ce1 cq t1
  exact ⟨xs, xss, rv_agg2 hx.oneCell hxs.oneCell (.ints hx) (.intss hxs)⟩

theorem rvs3 {v0 v1 v2 : Value} {a0 a1 a2 : AV} (h0 : RV w (fun _ => True) [] v0 a0) (h1 : RV w (fun _ => True) [] v1 a1) (h2 : RV w (fun _ => True) [] v2 a2) : RVs w [a0, a1, a2] #[v0, v1, v2] := by
  refine ⟨rfl, fun i => ?_⟩
  match i with
  | 0 => exact h0
  | 1 => exact h1
  | 2 => exact h2
  | n + 3 => exact .any _
theorem trod_places {t : TypeId} {v : Value} {d : DataW H} {ps : List MemPlace} {spare : Nat → Bool} (h : DataW.Trod enc P w base spare held t v d ps) : ∀ x ∈ ps, x.block < w.heap.size := by
  obtain ⟨fuel, hf⟩ := h
  exact DataW.trod_lt _ _ _ _ hf
end
end Go.Proofs.Ytlkhcelodcneiaa
/-
  Edges of forests: every edge can be cut; neighbours. No condition.
-/
namespace Go.Proofs.Ytlkhcelodcneiaa
open Go Go.RowKit

/-- One label in the place of another. -/
def mgL (L : List Int) (a b : Int) : List Int := L.map fun x => if x = b then a else x
theorem mgL_len (L : List Int) (a b : Int) : (mgL L a b).length = L.length := by simp [mgL]
theorem mgL_get {L : List Int} {a b x : Int} (h0 : 0 ≤ x) (h1 : x < L.length) : geti (mgL L a b) x = if geti L x = b then a else geti L x := by
  have hx : x.toNat < L.length := by omega
  simp only [geti, mgL, List.getD_eq_getElem?_getD, List.getElem?_map, List.getElem?_eq_getElem hx, Option.map_some, Option.getD_some]
/-- All edges join two components, one after the other. -/
def effL : List Int → List (List Int) → Prop
  | _, [] => True
  | L, e :: E => geti L (geti e 0) ≠ geti L (geti e 1) ∧ effL (mgL L (geti L (geti e 0)) (geti L (geti e 1))) E

def EIn (n : Nat) (e : List Int) : Prop := e.length = 2 ∧ 0 ≤ geti e 0 ∧ geti e 0 < geti e 1 ∧ geti e 1 < n
def lx (a b : List Int) : Prop := geti a 0 < geti b 0 ∨ (geti a 0 = geti b 0 ∧ geti a 1 < geti b 1)
theorem lx_tr {a b c : List Int} (h1 : lx a b) (h2 : lx b c) : lx a c := by unfold lx at *; omega
theorem e2 {e : List Int} (h : e.length = 2) : e = [geti e 0, geti e 1] := by
  match e, h with
  | [x, y], _ => rfl

/-- What is known of the edges seen so far and their labels. -/
structure CutI (n : Nat) (L : List Int) (A : List (List Int)) : Prop where
  len : L.length = n
  same : ∀ e ∈ A, geti L (geti e 0) = geti L (geti e 1)
  cut : ∀ e ∈ A, ∃ c : Int → Bool, c (geti e 0) ≠ c (geti e 1) ∧ ∀ f ∈ A, f ≠ e → c (geti f 0) = c (geti f 1)
theorem CutI.step {n : Nat} {L : List Int} {A : List (List Int)} {e : List Int} (h : CutI n L A) (hA : ∀ f ∈ A, EIn n f) (he : EIn n e) (hne : geti L (geti e 0) ≠ geti L (geti e 1)) :
    CutI n (mgL L (geti L (geti e 0)) (geti L (geti e 1))) (A ++ [e]) := by
  have hl := h.len
  obtain ⟨e1, e2, e3, e4⟩ := he
  refine ⟨by rw [mgL_len]; exact hl, fun f hf => ?_, fun f hf => ?_⟩
  · rcases List.mem_append.1 hf with hf | hf
    · obtain ⟨f1, f2, f3, f4⟩ := hA f hf
      rw [mgL_get f2 (by omega), mgL_get (by omega) (by omega), h.same f hf]
    · rw [List.mem_singleton.1 hf, mgL_get e2 (by omega), mgL_get (by omega) (by omega), if_neg hne, if_pos rfl]
  · have hfe : ∀ f ∈ A, f ≠ e := fun f hf hh => hne (by rw [← hh]; exact h.same f hf)
    rcases List.mem_append.1 hf with hf | hf
    · obtain ⟨c, c1, c2⟩ := h.cut f hf
      by_cases hc : c (geti e 0) = c (geti e 1)
      · refine ⟨c, c1, fun g hg hgf => ?_⟩
        rcases List.mem_append.1 hg with hg | hg
        · exact c2 g hg hgf
        · rw [List.mem_singleton.1 hg]; exact hc
      · refine ⟨fun x => (c x).xor (decide (geti L x = geti L (geti e 1))), ?_, fun g hg hgf => ?_⟩
        · simp only [h.same f hf]
          intro hh
          exact c1 (Bool.xor_left_inj.1 hh)
        · rcases List.mem_append.1 hg with hg | hg
          · simp only [h.same g hg, c2 g hg hgf]
          · rw [List.mem_singleton.1 hg]
            simp only [decide_true, decide_eq_false hne]
            cases h0 : c (geti e 0) <;> cases h1 : c (geti e 1) <;> simp_all
    · rw [List.mem_singleton.1 hf]
      refine ⟨fun x => decide (geti L x = geti L (geti e 1)), ?_, fun g hg hgf => ?_⟩
      · simp only [decide_true, decide_eq_false hne]; simp
      · rcases List.mem_append.1 hg with hg | hg
        · simp only [h.same g hg]
        · exact absurd (List.mem_singleton.1 hg) hgf
theorem cut_run {n : Nat} : ∀ {E A : List (List Int)} {L : List Int}, CutI n L A → (∀ f ∈ A, EIn n f) → (∀ f ∈ E, EIn n f) → effL L E → ∃ L', CutI n L' (A ++ E)
  | [], A, L, h, _, _, _ => ⟨L, by rw [List.append_nil]; exact h⟩
  | e :: E, A, L, h, hA, hE, hf => by
    have := cut_run (E := E) (h.step hA (hE e (by simp)) hf.1) (fun f hf' => by
      rcases List.mem_append.1 hf' with hf' | hf'
      · exact hA f hf'
      · rw [List.mem_singleton.1 hf']; exact hE e (by simp)) (fun f hf' => hE f (by simp [hf'])) hf.2
    rwa [List.append_assoc] at this

/-! ### Neighbours -/
def nearL (E : List (List Int)) (v : Int) : List Int := (E.filter fun e => decide (geti e 1 = v)).map (fun e => geti e 0) ++ (E.filter fun e => decide (geti e 0 = v)).map (fun e => geti e 1)
theorem near_mem {E : List (List Int)} (hE : ∀ e ∈ E, e.length = 2) {u v : Int} : u ∈ nearL E v ↔ [u, v] ∈ E ∨ [v, u] ∈ E := by
  unfold nearL
  rw [List.mem_append, List.mem_map, List.mem_map]
  constructor
  · rintro (⟨e, he, rfl⟩ | ⟨e, he, rfl⟩)
    · obtain ⟨h1, h2⟩ := List.mem_filter.1 he
      have h2 := of_decide_eq_true h2
      left; rw [← h2, ← e2 (hE e h1)]; exact h1
    · obtain ⟨h1, h2⟩ := List.mem_filter.1 he
      have h2 := of_decide_eq_true h2
      right; rw [← h2, ← e2 (hE e h1)]; exact h1
  · rintro (h | h)
    · exact .inl ⟨_, List.mem_filter.2 ⟨h, decide_eq_true rfl⟩, rfl⟩
    · exact .inr ⟨_, List.mem_filter.2 ⟨h, decide_eq_true rfl⟩, rfl⟩
/-- The neighbours as they stand in the list of edges. -/
def nearE (E : List (List Int)) (v : Int) : List Int := E.flatMap fun e => (if geti e 0 = v then [geti e 1] else []) ++ (if geti e 1 = v then [geti e 0] else [])
theorem nearE_eq {n : Nat} : ∀ {E : List (List Int)}, (∀ e ∈ E, EIn n e) → E.Pairwise lx → ∀ v, nearE E v = nearL E v
  | [], _, _, v => rfl
  | e :: E, hE, hp, v => by
    obtain ⟨h1, h2⟩ := List.pairwise_cons.1 hp
    have ih := nearE_eq (fun f hf => hE f (by simp [hf])) h2 v
    obtain ⟨e1, e2, e3, e4⟩ := hE e (by simp)
    have es : nearE (e :: E) v = ((if geti e 0 = v then [geti e 1] else []) ++ (if geti e 1 = v then [geti e 0] else [])) ++ nearE E v := by simp [nearE]
    rw [es, ih]
    unfold nearL
    by_cases ha : geti e 0 = v
    · have hb : ¬ geti e 1 = v := by omega
      rw [if_pos ha, if_neg hb, List.filter_cons_of_neg (by simp [hb]), List.filter_cons_of_pos (by simp [ha])]
      have hnil : (E.filter fun e => decide (geti e 1 = v)) = [] := by
        rw [List.filter_eq_nil_iff]
        intro f hf
        have h3 := h1 f hf
        have h4 := hE f (by simp [hf])
        unfold lx at h3
        unfold EIn at h4
        simp only [decide_eq_true_eq]; omega
      rw [hnil]; simp
    · by_cases hb : geti e 1 = v
      · rw [if_neg ha, if_pos hb, List.filter_cons_of_pos (by simp [hb]), List.filter_cons_of_neg (by simp [ha])]; simp
      · rw [if_neg ha, if_neg hb, List.filter_cons_of_neg (by simp [hb]), List.filter_cons_of_neg (by simp [ha])]; simp
theorem near_sorted {n : Nat} {E : List (List Int)} (hE : ∀ e ∈ E, EIn n e) (hp : E.Pairwise lx) (v : Int) : (nearL E v).Pairwise (· < ·) := by
  unfold nearL
  rw [List.pairwise_append, List.pairwise_map, List.pairwise_map]
  refine ⟨?_, ?_, ?_⟩
  · refine List.Pairwise.imp_of_mem ?_ (hp.sublist List.filter_sublist)
    intro a b ha hb h
    have h1 := of_decide_eq_true (List.mem_filter.1 ha).2
    have h2 := of_decide_eq_true (List.mem_filter.1 hb).2
    unfold lx at h; omega
  · refine List.Pairwise.imp_of_mem ?_ (hp.sublist List.filter_sublist)
    intro a b ha hb h
    have h1 := of_decide_eq_true (List.mem_filter.1 ha).2
    have h2 := of_decide_eq_true (List.mem_filter.1 hb).2
    unfold lx at h; omega
  · intro x hx y hy
    obtain ⟨a, ha, rfl⟩ := List.mem_map.1 hx
    obtain ⟨b, hb, rfl⟩ := List.mem_map.1 hy
    obtain ⟨ha, h1⟩ := List.mem_filter.1 ha
    obtain ⟨hb, h2⟩ := List.mem_filter.1 hb
    have h1 := of_decide_eq_true h1
    have h2 := of_decide_eq_true h2
    have ia := hE a ha
    have ib := hE b hb
    unfold EIn at ia ib; omega

/-- Neighbours in a forest with n vertices. -/
structure Fst (n : Nat) (near : Int → List Int) : Prop where
  bnd : ∀ v u, u ∈ near v → (0 ≤ u ∧ u < n) ∧ (0 ≤ v ∧ v < n) ∧ u ≠ v
  sym : ∀ v u, u ∈ near v → v ∈ near u
  srt : ∀ v, (near v).Pairwise (· < ·)
  cut : ∀ v u, u ∈ near v → ∃ c : Int → Bool, c u ≠ c v ∧ ∀ x y, y ∈ near x → ¬ ((x = u ∧ y = v) ∨ (x = v ∧ y = u)) → c x = c y
theorem Fst.nd {n : Nat} {near : Int → List Int} (h : Fst n near) (v : Int) : (near v).Nodup := (h.srt v).imp fun h => Int.ne_of_lt h
/-- The edges of a forest. -/
structure FoE (n : Nat) (E : List (List Int)) : Prop where
  row : ∀ e ∈ E, EIn n e
  srt : E.Pairwise lx
  cut : ∀ e ∈ E, ∃ c : Int → Bool, c (geti e 0) ≠ c (geti e 1) ∧ ∀ f ∈ E, f ≠ e → c (geti f 0) = c (geti f 1)
theorem FoE.fst {n : Nat} {E : List (List Int)} (h : FoE n E) : Fst n (nearL E) := by
  have hl : ∀ e ∈ E, e.length = 2 := fun e he => (h.row e he).1
  refine ⟨fun v u hu => ?_, fun v u hu => ?_, near_sorted h.row h.srt, fun v u hu => ?_⟩
  · rcases (near_mem hl).1 hu with hu | hu
    · have := h.row _ hu
      unfold EIn at this
      simp only [geti] at this
      simp at this; omega
    · have := h.row _ hu
      unfold EIn at this
      simp only [geti] at this
      simp at this; omega
  · exact (near_mem hl).2 ((near_mem hl).1 hu).symm
  · have key : ∀ a b, [a, b] ∈ E → ∃ c : Int → Bool, c a ≠ c b ∧ ∀ x y, y ∈ nearL E x → ¬ ((x = a ∧ y = b) ∨ (x = b ∧ y = a)) → c x = c y := by
      intro a b hab
      obtain ⟨c, c1, c2⟩ := h.cut _ hab
      refine ⟨c, c1, fun x y hy hn => ?_⟩
      rcases (near_mem hl).1 hy with hy | hy
      · exact (c2 [y, x] hy (fun e => hn (by simp at e; omega))).symm
      · exact c2 [x, y] hy (fun e => hn (by simp at e; omega))
    rcases (near_mem hl).1 hu with hu | hu
    · exact key u v hu
    · obtain ⟨c, c1, c2⟩ := key v u hu
      exact ⟨c, fun e => c1 e.symm, fun x y hy hn => c2 x y hy fun hh => hn (by omega)⟩
theorem foE_of {n : Nat} {E : List (List Int)} (hE : ∀ e ∈ E, EIn n e) (hp : E.Pairwise lx) (hf : effL ((List.range n).map fun (i : Nat) => (i : Int)) E) : FoE n E := by
  obtain ⟨L', h⟩ := cut_run (A := []) ⟨by simp, by simp, by simp⟩ (by simp) hE hf
  rw [List.nil_append] at h
  exact ⟨hE, hp, h.cut⟩
end Go.Proofs.Ytlkhcelodcneiaa
/-
  Rooted trees in a forest: the order in which they are found, and the parents. No condition.
-/
namespace Go.Proofs.Ytlkhcelodcneiaa
open Go Go.RowKit

theorem nd_len {n : Nat} : ∀ {l : List Int}, l.Nodup → (∀ x ∈ l, 0 ≤ x ∧ x < n) → l.length ≤ n := by
  induction n with
  | zero => intro l _ h; cases l with
    | nil => simp
    | cons a l => have := h a (by simp); omega
  | succ n ih =>
    intro l hn h
    have h1 : (l.filter fun x => decide (x ≠ (n : Int))).length ≤ n := ih (hn.sublist List.filter_sublist) fun x hx => by
      obtain ⟨hx, h2⟩ := List.mem_filter.1 hx
      have h2 := of_decide_eq_true h2
      have := h x hx; omega
    have h2 : l.length ≤ (l.filter fun x => decide (x ≠ (n : Int))).length + 1 := by
      clear h1 h ih
      induction l with
      | nil => simp
      | cons a l ih =>
        obtain ⟨h1, h2⟩ := List.nodup_cons.1 hn
        by_cases ha : a = (n : Int)
        · subst ha
          have : (l.filter fun x => decide (x ≠ (n : Int))) = l := List.filter_eq_self.2 fun x hx => decide_eq_true fun e => h1 (e ▸ hx)
          rw [List.filter_cons_of_neg (by simp), this]; simp
        · rw [List.filter_cons_of_pos (by simpa using ha)]
          have := ih h2
          simp only [List.length_cons]; omega
    omega
theorem nd_get {l : List Int} (h : l.Nodup) {i j : Nat} {x : Int} (hi : l[i]? = some x) (hj : l[j]? = some x) : i = j :=
  (List.getElem?_inj (List.getElem?_eq_some_iff.1 hi).1 h).1 (hi.trans hj.symm)

section
variable {n : Nat} {near : Int → List Int} {r : Int}

/-- While the neighbours of the vertex v at place i are looked at: dn have been. -/
structure InvK (n : Nat) (near : Int → List Int) (r : Int) (i : Nat) (v : Int) (dn : List Int) (o p : List Int) : Prop where
  nd : o.Nodup
  rng : ∀ x ∈ o, 0 ≤ x ∧ x < n
  root : o[0]? = some r
  at_ : o[i]? = some v
  len : p.length = n
  pr : geti p r = -1
  par : ∀ (j : Nat) x, o[j]? = some x → x ≠ r → (∃ m y, m < i ∧ m < j ∧ o[m]? = some y ∧ geti p x = y ∧ x ∈ near y) ∨ (i < j ∧ x ∈ dn ∧ geti p x = v)
  cl : ∀ (m : Nat) y, m < i → o[m]? = some y → ∀ u ∈ near y, u ≠ geti p y → u ∈ o ∧ u ≠ r ∧ geti p u = y
  dn_ : ∀ u ∈ dn, u ≠ geti p v → u ∈ o ∧ u ≠ r ∧ geti p u = v
structure Inv (n : Nat) (near : Int → List Int) (r : Int) (i : Nat) (o p : List Int) : Prop where
  nd : o.Nodup
  rng : ∀ x ∈ o, 0 ≤ x ∧ x < n
  root : o[0]? = some r
  le : i ≤ o.length
  len : p.length = n
  pr : geti p r = -1
  par : ∀ (j : Nat) x, o[j]? = some x → x ≠ r → ∃ m y, m < i ∧ m < j ∧ o[m]? = some y ∧ geti p x = y ∧ x ∈ near y
  cl : ∀ (m : Nat) y, m < i → o[m]? = some y → ∀ u ∈ near y, u ≠ geti p y → u ∈ o ∧ u ≠ r ∧ geti p u = y
theorem Inv.bd {i : Nat} {o p : List Int} (h : Inv n near r i o p) : o.length ≤ n := nd_len h.nd h.rng
theorem InvK.bd {i : Nat} {v : Int} {dn o p : List Int} (h : InvK n near r i v dn o p) : o.length ≤ n := nd_len h.nd h.rng
theorem Inv.start (hr : 0 ≤ r ∧ r < n) : Inv n near r 0 [r] (List.replicate n (-1)) := by
  refine ⟨by simp, by simpa using hr, rfl, by simp, by simp, ?_, ?_, fun m y h => by omega⟩
  · have : r.toNat < n := by omega
    simp [geti, this]
  · intro j x hj hx
    match j with
    | 0 => simp at hj; exact absurd hj.symm hx
    | j + 1 => simp at hj
theorem Inv.into {i : Nat} {o p : List Int} {v : Int} (h : Inv n near r i o p) (hv : o[i]? = some v) : InvK n near r i v [] o p :=
  ⟨h.nd, h.rng, h.root, hv, h.len, h.pr, fun j x hj hx => .inl (h.par j x hj hx), h.cl, fun u hu => by cases hu⟩
theorem InvK.out {i : Nat} {o p : List Int} {v : Int} (h : InvK n near r i v (near v) o p) : Inv n near r (i + 1) o p := by
  refine ⟨h.nd, h.rng, h.root, ?_, h.len, h.pr, fun j x hj hx => ?_, fun m y hm hy => ?_⟩
  · have := (List.getElem?_eq_some_iff.1 h.at_).1; omega
  · rcases h.par j x hj hx with ⟨m, y, h1, h2, h3, h4, h5⟩ | ⟨h1, h2, h3⟩
    · exact ⟨m, y, by omega, h2, h3, h4, h5⟩
    · exact ⟨i, v, by omega, h1, h.at_, h3, h2⟩
  · by_cases e : m = i
    · subst e
      have : y = v := by have := h.at_; rw [hy] at this; exact Option.some.inj this
      subst this
      exact h.dn_
    · exact h.cl m y (by omega) hy
/-- The parent is passed over. -/
theorem InvK.skip {i : Nat} {o p dn : List Int} {v u : Int} (h : InvK n near r i v dn o p) (hu : u = geti p v) : InvK n near r i v (dn ++ [u]) o p :=
  ⟨h.nd, h.rng, h.root, h.at_, h.len, h.pr, fun j x hj hx => (h.par j x hj hx).imp id fun ⟨h1, h2, h3⟩ => ⟨h1, List.mem_append.2 (.inl h2), h3⟩, h.cl, fun x hx hne => by
    rcases List.mem_append.1 hx with hx | hx
    · exact h.dn_ x hx hne
    · exact absurd ((List.mem_singleton.1 hx).trans hu) hne⟩
/-- A neighbour that is not the parent is new. -/
theorem InvK.new (hF : Fst n near) {i : Nat} {o p dn : List Int} {v u : Int} (h : InvK n near r i v dn o p) (hdn : ∀ x ∈ dn, x ∈ near v) (hu : u ∈ near v) (hud : u ∉ dn) (hup : u ≠ geti p v) : u ∉ o := by
  intro huo
  obtain ⟨c, c1, c2⟩ := hF.cut v u hu
  obtain ⟨⟨u0, u1⟩, ⟨v0, v1⟩, huv⟩ := hF.bnd v u hu
  have key : ∀ (k j : Nat) x, j < k → o[j]? = some x → c x = c r := by
    intro k
    induction k with
    | zero => intro j x hj; omega
    | succ k ih =>
      intro j x hj hx
      by_cases hxr : x = r
      · rw [hxr]
      · rcases h.par j x hx hxr with ⟨m, y, h1, h2, h3, h4, h5⟩ | ⟨h1, h2, h3⟩
        · have hy := ih m y (by omega) h3
          rw [← hy]
          refine (c2 y x h5 ?_).symm
          rintro (⟨e1, e2⟩ | ⟨e1, e2⟩)
          · subst e2; exact hup (by rw [h4]; exact e1.symm)
          · have hmi := nd_get h.nd h3 (by rw [e1]; exact h.at_); omega
        · have hv := ih i v (by omega) h.at_
          rw [← hv]
          refine (c2 v x (hdn x h2) ?_).symm
          rintro (⟨e1, e2⟩ | ⟨e1, e2⟩)
          · exact huv e1.symm
          · exact hud (e2 ▸ h2)
  obtain ⟨j, hj⟩ := List.getElem?_of_mem huo
  exact c1 ((key (j + 1) j u (by omega) hj).trans (key (i + 1) i v (by omega) h.at_).symm)
theorem geti_st {p : List Int} {u v x : Int} (hu : 0 ≤ u) (hx : 0 ≤ x) (hl : u < p.length) : geti (p.set u.toNat v) x = if x = u then v else geti p x := by
  simp only [geti, List.getD_eq_getElem?_getD, List.getElem?_set]
  by_cases e : x = u
  · subst e; rw [if_pos rfl, if_pos (by omega), if_pos rfl]; rfl
  · rw [if_neg (by omega), if_neg e]
theorem InvK.push (hF : Fst n near) {i : Nat} {o p dn : List Int} {v u : Int} (h : InvK n near r i v dn o p) (hdn : ∀ x ∈ dn, x ∈ near v) (hu : u ∈ near v) (hud : u ∉ dn) (hup : u ≠ geti p v) :
    InvK n near r i v (dn ++ [u]) (o ++ [u]) (p.set u.toNat v) := by
  have hnew := h.new hF hdn hu hud hup
  obtain ⟨⟨u0, u1⟩, ⟨v0, v1⟩, huv⟩ := hF.bnd v u hu
  have hrm : r ∈ o := List.mem_of_getElem? h.root
  have hvm : v ∈ o := List.mem_of_getElem? h.at_
  have hr := h.rng r hrm
  have hg : ∀ x ∈ o, geti (p.set u.toNat v) x = geti p x := fun x hx => by
    rw [geti_st u0 (h.rng x hx).1 (by rw [h.len]; exact u1), if_neg (show ¬ x = u from fun e => hnew (e ▸ hx))]
  have hgu : geti (p.set u.toNat v) u = v := by rw [geti_st u0 u0 (by rw [h.len]; exact u1), if_pos rfl]
  have hget : ∀ (j : Nat) x, o[j]? = some x → (o ++ [u])[j]? = some x := fun j x hj => by
    rw [List.getElem?_append_left (List.getElem?_eq_some_iff.1 hj).1]; exact hj
  refine ⟨?_, ?_, hget _ _ h.root, hget _ _ h.at_, by rw [List.length_set]; exact h.len, by rw [hg r hrm]; exact h.pr, ?_, ?_, ?_⟩
  · rw [List.nodup_append]
    exact ⟨h.nd, by simp, fun a ha b hb e => hnew (by rw [List.mem_singleton.1 hb] at e; exact e ▸ ha)⟩
  · intro x hx
    rcases List.mem_append.1 hx with hx | hx
    · exact h.rng x hx
    · rw [List.mem_singleton.1 hx]; exact ⟨u0, u1⟩
  · intro j x hj hx
    by_cases hlt : j < o.length
    · rw [List.getElem?_append_left hlt] at hj
      have hxo := List.mem_of_getElem? hj
      rw [hg x hxo]
      rcases h.par j x hj hx with ⟨m, y, h1, h2, h3, h4, h5⟩ | ⟨h1, h2, h3⟩
      · exact .inl ⟨m, y, h1, h2, hget _ _ h3, h4, h5⟩
      · exact .inr ⟨h1, List.mem_append.2 (.inl h2), h3⟩
    · rw [List.getElem?_append_right (by omega)] at hj
      have : j - o.length = 0 := by
        cases hz : j - o.length with
        | zero => rfl
        | succ k => rw [hz] at hj; simp at hj
      rw [this] at hj
      have hxu : x = u := by simpa using hj.symm
      subst hxu
      have := (List.getElem?_eq_some_iff.1 h.at_).1
      exact .inr ⟨by omega, List.mem_append.2 (.inr (by simp)), hgu⟩
  · intro m y hm hy w hw hne
    have hml : m < o.length := by have := (List.getElem?_eq_some_iff.1 h.at_).1; omega
    rw [List.getElem?_append_left hml] at hy
    rw [hg y (List.mem_of_getElem? hy)] at hne
    obtain ⟨h1, h2, h3⟩ := h.cl m y hm hy w hw hne
    exact ⟨List.mem_append.2 (.inl h1), h2, by rw [hg w h1]; exact h3⟩
  · intro w hw hne
    rw [hg v hvm] at hne
    rcases List.mem_append.1 hw with hw | hw
    · obtain ⟨h1, h2, h3⟩ := h.dn_ w hw hne
      exact ⟨List.mem_append.2 (.inl h1), h2, by rw [hg w h1]; exact h3⟩
    · rw [List.mem_singleton.1 hw]
      exact ⟨List.mem_append.2 (.inr (by simp)), fun e => hnew (e ▸ hrm), hgu⟩

/-- The tree of a root. -/
abbrev Tr (n : Nat) (near : Int → List Int) (r : Int) (o p : List Int) : Prop := Inv n near r o.length o p
theorem Tr.par {o p : List Int} (h : Tr n near r o p) {j : Nat} {x : Int} (hj : o[j]? = some x) (hx : x ≠ r) : ∃ m y, m < j ∧ o[m]? = some y ∧ geti p x = y ∧ x ∈ near y := by
  obtain ⟨m, y, _, h2, h3, h4, h5⟩ := Inv.par h j x hj hx
  exact ⟨m, y, h2, h3, h4, h5⟩
theorem Tr.ch {o p : List Int} (h : Tr n near r o p) {y : Int} (hy : y ∈ o) {u : Int} (hu : u ∈ near y) (hne : u ≠ geti p y) : u ∈ o ∧ u ≠ r ∧ geti p u = y := by
  obtain ⟨m, hm⟩ := List.getElem?_of_mem hy
  exact h.cl m y (List.getElem?_eq_some_iff.1 hm).1 hm u hu hne
theorem Tr.rt {o p : List Int} (h : Tr n near r o p) : r ∈ o := List.mem_of_getElem? h.root
/-- A rank: parents come first. -/
theorem Tr.rank {o p : List Int} (h : Tr n near r o p) : ∃ k : Int → Nat, (∀ x ∈ o, k x < n) ∧ ∀ x ∈ o, x ≠ r → geti p x ∈ o ∧ k (geti p x) < k x ∧ x ∈ near (geti p x) := by
  have hget : ∀ x ∈ o, ∃ j : Nat, o[j]? = some x := fun x hx => List.getElem?_of_mem hx
  refine ⟨fun x => if hx : x ∈ o then Classical.choose (hget x hx) else 0, fun x hx => ?_, fun x hx hxr => ?_⟩
  · have h1 := Classical.choose_spec (hget x hx)
    have := (List.getElem?_eq_some_iff.1 h1).1
    have := h.bd
    simp only [dif_pos hx]; omega
  · have h1 := Classical.choose_spec (hget x hx)
    obtain ⟨m, y, h2, h3, h4, h5⟩ := h.par h1 hxr
    have hy : geti p x ∈ o := by rw [h4]; exact List.mem_of_getElem? h3
    have h6 := Classical.choose_spec (hget _ hy)
    refine ⟨hy, ?_, by rw [h4]; exact h5⟩
    simp only [dif_pos hx, dif_pos hy]
    have := nd_get h.nd h6 (by rw [h4]; exact h3)
    omega
/-- One root has one tree. -/
theorem Tr.sub {o p o' p' : List Int} (h : Tr n near r o p) (h' : Tr n near r o' p') : ∀ x ∈ o, x ∈ o' ∧ geti p x = geti p' x := by
  obtain ⟨k, k1, k2⟩ := h.rank
  have key : ∀ (m : Nat) x, x ∈ o → k x < m → x ∈ o' ∧ geti p x = geti p' x := by
    intro m
    induction m with
    | zero => intro x _ hx; omega
    | succ m ih =>
      intro x hx hm
      by_cases hxr : x = r
      · subst hxr; exact ⟨h'.rt, h.pr.trans h'.pr.symm⟩
      · obtain ⟨h1, h2, h3⟩ := k2 x hx hxr
        obtain ⟨h4, h5⟩ := ih _ h1 (by omega)
        have hne : x ≠ geti p' (geti p x) := by
          rw [← h5]
          intro e
          by_cases hyr : geti p x = r
          · rw [hyr, h.pr] at e
            have := h.rng x hx; omega
          · have := (k2 _ h1 hyr).2.1
            rw [← e] at this; omega
        obtain ⟨h6, h7, h8⟩ := h'.ch h4 h3 hne
        exact ⟨h6, h8.symm⟩
  exact fun x hx => key (k x + 1) x hx (by omega)
theorem Tr.iff {o p o' p' : List Int} (h : Tr n near r o p) (h' : Tr n near r o' p') (x : Int) : x ∈ o ↔ x ∈ o' := ⟨fun hx => (h.sub h' x hx).1, fun hx => (h'.sub h x hx).1⟩
/-- Trees are closed. -/
theorem Tr.closed {o p : List Int} (h : Tr n near r o p) (hF : Fst n near) {y u : Int} (hy : y ∈ o) (hu : u ∈ near y) : u ∈ o := by
  by_cases e : u = geti p y
  · by_cases hyr : y = r
    · rw [hyr, h.pr] at e
      have := (hF.bnd y u hu).1; omega
    · obtain ⟨k, _, k2⟩ := h.rank
      rw [e]; exact (k2 y hy hyr).1
  · exact (h.ch hy hu e).1
/-- A tree whose root does not lie in another one has no vertex in common with it. -/
theorem Tr.disj {r' : Int} {o p o' p' : List Int} (h : Tr n near r o p) (h' : Tr n near r' o' p') (hF : Fst n near) (hn : r' ∉ o) : ∀ x ∈ o', x ∉ o := by
  obtain ⟨k, k1, k2⟩ := h'.rank
  have key : ∀ (m : Nat) x, x ∈ o' → k x < m → x ∉ o := by
    intro m
    induction m with
    | zero => intro x _ hx; omega
    | succ m ih =>
      intro x hx hm hxo
      by_cases hxr : x = r'
      · exact hn (hxr ▸ hxo)
      · obtain ⟨h1, h2, h3⟩ := k2 x hx hxr
        exact ih _ h1 (by omega) (h.closed hF hxo (hF.sym _ _ h3))
  exact fun x hx => key (k x + 1) x hx (by omega)

/-! ### Every vertex has its tree -/
theorem scan_ex (hF : Fst n near) {i : Nat} {v : Int} : ∀ (rest dn o p : List Int), near v = dn ++ rest → InvK n near r i v dn o p → ∃ o' p', InvK n near r i v (near v) o' p'
  | [], dn, o, p, e, h => by rw [List.append_nil] at e; exact ⟨o, p, by rw [e]; exact h⟩
  | u :: rest, dn, o, p, e, h => by
    have hdn : ∀ x ∈ dn, x ∈ near v := fun x hx => by rw [e]; simp [hx]
    have hu : u ∈ near v := by rw [e]; simp
    have hnd := hF.nd v
    rw [e] at hnd
    have hud : u ∉ dn := fun hx => (List.nodup_append.1 hnd).2.2 u hx u (by simp) rfl
    have e' : near v = (dn ++ [u]) ++ rest := by rw [e]; simp
    by_cases hup : u = geti p v
    · exact scan_ex hF rest _ o p e' (h.skip hup)
    · exact scan_ex hF rest _ _ _ e' (h.push hF hdn hu hud hup)
theorem tree_from (hF : Fst n near) : ∀ (m i : Nat) (o p : List Int), n - i ≤ m → Inv n near r i o p → ∃ o' p', Tr n near r o' p'
  | m, i, o, p, hm, h => by
    have hb := h.bd
    have hle := h.le
    by_cases hi : i = o.length
    · subst hi; exact ⟨o, p, h⟩
    · have hlt : i < o.length := by omega
      cases m with
      | zero => omega
      | succ m =>
        obtain ⟨o', p', h'⟩ := scan_ex hF (near (o[i])) [] o p rfl (h.into (List.getElem?_eq_getElem hlt))
        exact tree_from hF m (i + 1) o' p' (by omega) h'.out
theorem tree_ex (hF : Fst n near) (hr : 0 ≤ r ∧ r < n) : ∃ o p, Tr n near r o p := tree_from hF n 0 _ _ (by omega) (Inv.start hr)
end
end Go.Proofs.Ytlkhcelodcneiaa
/-
  The determinants of branches: what they are in a tree, and that a search in depth finds them. No condition.
-/
namespace Go.Proofs.Ytlkhcelodcneiaa
open Go Go.RowKit

/-- A product is not too large. -/
def tok (a b : Int) : Bool := decide (a = 0 ∨ b = 0 ∨ (a.natAbs : Int) ≤ 1000000000000 / (b.natAbs : Int))
def inM (x : Int) : Prop := -1000000000000 ≤ x ∧ x ≤ 1000000000000
theorem tok_in {a b : Int} (h : tok a b = true) : inM (a * b) := by
  unfold tok at h
  unfold inM
  rcases of_decide_eq_true h with rfl | rfl | h
  · simp
  · simp
  · by_cases hb : b = 0
    · subst hb; simp
    · have h1 : (a.natAbs : Int) * b.natAbs ≤ 1000000000000 := by
        have h2 := Int.mul_le_mul_of_nonneg_right h (show (0 : Int) ≤ b.natAbs by omega)
        have h3 := Int.ediv_mul_le 1000000000000 (show (b.natAbs : Int) ≠ 0 by omega)
        omega
      have h2 : ((a * b).natAbs : Int) = (a.natAbs : Int) * b.natAbs := by rw [Int.natAbs_mul]; simp
      omega
/-- One more branch. -/
def okS (p r f g : Int) : Bool := tok r f && tok p g && tok p f && decide (-1000000000000 ≤ r * f - p * g ∧ r * f - p * g ≤ 1000000000000)
def fO (T : Int → Option (Int × Int)) : List Int → Int × Int → Option (Int × Int)
  | [], s => some s
  | c :: cs, (p, r) => match T c with
    | none => none
    | some (g, f) => if okS p r f g = true then fO T cs (p * f, r * f - p * g) else none
theorem fO_app (T : Int → Option (Int × Int)) : ∀ (xs ys : List Int) (s : Int × Int), fO T (xs ++ ys) s = (fO T xs s).bind (fO T ys)
  | [], ys, s => rfl
  | c :: xs, ys, (p, r) => by
    rw [List.cons_append, fO, fO]
    cases hc : T c with
    | none => rfl
    | some gf =>
      obtain ⟨g, f⟩ := gf
      simp only
      by_cases h : okS p r f g = true
      · rw [if_pos h, if_pos h]; exact fO_app T xs ys _
      · rw [if_neg h, if_neg h]; rfl
theorem fO_congr {T T' : Int → Option (Int × Int)} : ∀ {xs : List Int} {s : Int × Int}, (∀ c ∈ xs, T c = T' c) → fO T xs s = fO T' xs s
  | [], s, _ => rfl
  | c :: xs, (p, r), h => by
    rw [fO, fO, h c (by simp)]
    cases T' c with
    | none => rfl
    | some gf =>
      obtain ⟨g, f⟩ := gf
      simp only
      rw [fO_congr (xs := xs) fun c hc => h c (by simp [hc])]
def fgV (W : List Int) (ch : Int → List Int) : Nat → Int → Option (Int × Int)
  | 0, _ => none
  | k + 1, v => fO (fgV W ch k) (ch v) (1, -geti W v)
/-- The children of a vertex. -/
def chl (near : Int → List Int) (p : List Int) (v : Int) : List Int := (near v).filter fun u => decide (u ≠ geti p v)

section
variable {n : Nat} {near : Int → List Int} {r : Int} {o p W : List Int}
theorem chl_mem (h : Tr n near r o p) {v c : Int} (hv : v ∈ o) (hc : c ∈ chl near p v) : c ∈ near v ∧ c ≠ geti p v ∧ c ∈ o ∧ c ≠ r ∧ geti p c = v := by
  obtain ⟨h1, h2⟩ := List.mem_filter.1 hc
  have h2 := of_decide_eq_true h2
  obtain ⟨h3, h4, h5⟩ := h.ch hv h1 h2
  exact ⟨h1, h2, h3, h4, h5⟩
theorem fgV_st (h : Tr n near r o p) {k : Int → Nat} (k1 : ∀ x ∈ o, k x < n) (k2 : ∀ x ∈ o, x ≠ r → geti p x ∈ o ∧ k (geti p x) < k x ∧ x ∈ near (geti p x)) :
    ∀ (m m' : Nat) (v : Int), v ∈ o → n ≤ m + k v → n ≤ m' + k v → fgV W (chl near p) (m + 1) v = fgV W (chl near p) (m' + 1) v
  | 0, m', v, hv, h1, _ => by have := k1 v hv; omega
  | m + 1, 0, v, hv, _, h2 => by have := k1 v hv; omega
  | m + 1, m' + 1, v, hv, h1, h2 => by
    rw [fgV, fgV]
    refine fO_congr fun c hc => ?_
    obtain ⟨_, _, c3, c4, c5⟩ := chl_mem h hv hc
    have := (k2 c c3 c4).2.1
    rw [c5] at this
    exact fgV_st h k1 k2 m m' c c3 (by omega) (by omega)
/-- What belongs to a vertex: G and F of it. -/
def FG (n : Nat) (near : Int → List Int) (W p : List Int) (v : Int) : Option (Int × Int) := fgV W (chl near p) (n + 1) v
theorem FG_eq (h : Tr n near r o p) {v : Int} (hv : v ∈ o) : FG n near W p v = fO (FG n near W p) (chl near p v) (1, -geti W v) := by
  obtain ⟨k, k1, k2⟩ := h.rank
  have hn := k1 v hv
  show fgV W (chl near p) (n + 1) v = _
  rw [fgV]
  refine fO_congr fun c hc => ?_
  obtain ⟨_, _, c3, c4, c5⟩ := chl_mem h hv hc
  have := (k2 c c3 c4).2.1
  obtain ⟨m, rfl⟩ : ∃ m, n = m + 1 := ⟨n - 1, by omega⟩
  exact fgV_st h k1 k2 m (m + 1) c c3 (by omega) (by omega)
/-- Two ways to write down one tree. -/
theorem FG_uniq {o' p' : List Int} (h : Tr n near r o p) (h' : Tr n near r o' p') : ∀ v ∈ o, FG n near W p v = FG n near W p' v := by
  obtain ⟨k, k1, k2⟩ := h.rank
  have key : ∀ (m : Nat) v, v ∈ o → n ≤ m + k v → FG n near W p v = FG n near W p' v := by
    intro m
    induction m with
    | zero => intro v hv hm; have := k1 v hv; omega
    | succ m ih =>
      intro v hv hm
      obtain ⟨s1, s2⟩ := h.sub h' v hv
      rw [FG_eq h hv, FG_eq h' s1]
      have ec : chl near p v = chl near p' v := by unfold chl; rw [s2]
      rw [← ec]
      refine fO_congr fun c hc => ?_
      obtain ⟨_, _, c3, c4, c5⟩ := chl_mem h hv hc
      have := (k2 c c3 c4).2.1
      rw [c5] at this
      exact ih c c3 (by omega)
  exact fun v hv => key n v hv (by omega)

/-! ### Descendants -/
inductive Dsc (r : Int) (o p : List Int) (x : Int) : Int → Prop
  | refl : x ∈ o → Dsc r o p x x
  | up {y : Int} : y ∈ o → y ≠ r → Dsc r o p x (geti p y) → Dsc r o p x y
theorem Dsc.mem {x y : Int} (h : Dsc r o p x y) : y ∈ o := by cases h <;> assumption
theorem Dsc.trans {x y z : Int} (h1 : Dsc r o p x y) (h2 : Dsc r o p y z) : Dsc r o p x z := by
  induction h2 with
  | refl => exact h1
  | up h3 h4 _ ih => exact .up h3 h4 ih
theorem Dsc.child (h : Tr n near r o p) {v c x : Int} (hv : v ∈ o) (hc : c ∈ chl near p v) (hx : Dsc r o p c x) : Dsc r o p v x := by
  obtain ⟨_, _, c3, c4, c5⟩ := chl_mem h hv hc
  exact Dsc.trans (.up c3 c4 (by rw [c5]; exact .refl hv)) hx
theorem Dsc.rank {k : Int → Nat} (k2 : ∀ x ∈ o, x ≠ r → geti p x ∈ o ∧ k (geti p x) < k x ∧ x ∈ near (geti p x)) {x y : Int} (h : Dsc r o p x y) : k x ≤ k y := by
  induction h with
  | refl => exact Nat.le_refl _
  | up h3 h4 _ ih => have := (k2 _ h3 h4).2.1; omega
theorem Dsc.cases (h : Tr n near r o p) {v x : Int} (hx : Dsc r o p v x) : x = v ∨ ∃ c ∈ chl near p v, Dsc r o p c x := by
  obtain ⟨k, k1, k2⟩ := h.rank
  induction hx with
  | refl => exact .inl rfl
  | @up y h3 h4 h5 ih =>
    obtain ⟨h6, h7, h8⟩ := k2 y h3 h4
    rcases ih with e | ⟨c, hc, hd⟩
    · refine .inr ⟨y, List.mem_filter.2 ⟨by rw [← e]; exact h8, decide_eq_true ?_⟩, .refl h3⟩
      intro e2
      have hvo : v ∈ o := by rw [← e]; exact h6
      by_cases hvr : v = r
      · rw [hvr, h.pr] at e2
        have := h.rng y h3; omega
      · have := (k2 v hvo hvr).2.1
        rw [← e2, ← e] at this; omega
    · exact .inr ⟨c, hc, .up h3 h4 hd⟩
theorem Dsc.disj (h : Tr n near r o p) {v c c' x : Int} (hv : v ∈ o) (hc : c ∈ chl near p v) (hc' : c' ∈ chl near p v) (hx : Dsc r o p c x) (hx' : Dsc r o p c' x) : c = c' := by
  obtain ⟨k, k1, k2⟩ := h.rank
  obtain ⟨_, _, c3, c4, c5⟩ := chl_mem h hv hc
  obtain ⟨_, _, d3, d4, d5⟩ := chl_mem h hv hc'
  have kc := (k2 c c3 c4).2.1
  have kd := (k2 c' d3 d4).2.1
  rw [c5] at kc
  rw [d5] at kd
  induction hx with
  | refl _ =>
    cases hx' with
    | refl _ => rfl
    | up _ _ h3 => rw [c5] at h3; have := Dsc.rank k2 h3; omega
  | @up y h3 h4 h5 ih =>
    cases hx' with
    | refl _ => rw [d5] at h5; have := Dsc.rank k2 h5; omega
    | up _ _ h6 => exact ih h6
theorem Dsc.notup (h : Tr n near r o p) {v c : Int} (hv : v ∈ o) (hc : c ∈ chl near p v) : ¬ Dsc r o p c v := by
  obtain ⟨k, k1, k2⟩ := h.rank
  obtain ⟨_, _, c3, c4, c5⟩ := chl_mem h hv hc
  have kc := (k2 c c3 c4).2.1
  rw [c5] at kc
  intro hx
  have := Dsc.rank k2 hx; omega
theorem Dsc.all (h : Tr n near r o p) {x : Int} (hx : x ∈ o) : Dsc r o p r x := by
  obtain ⟨k, k1, k2⟩ := h.rank
  have key : ∀ (m : Nat) x, x ∈ o → k x < m → Dsc r o p r x := by
    intro m
    induction m with
    | zero => intro x _ hx; omega
    | succ m ih =>
      intro x hx hm
      by_cases hxr : x = r
      · rw [hxr]; exact .refl h.rt
      · obtain ⟨h1, h2, _⟩ := k2 x hx hxr
        exact .up hx hxr (ih _ h1 (by omega))
  exact key (k x + 1) x hx (by omega)
end
end Go.Proofs.Ytlkhcelodcneiaa
/-
  The graph of some vertices of a forest is a forest. No condition.
-/
namespace Go.Proofs.Ytlkhcelodcneiaa
open Go Go.RowKit

/-- The vertices that are kept. -/
def kpL (n : Nat) (B : Nat → Bool) : List Nat := (List.range n).filter B
/-- How many vertices below i are kept. -/
def rkB (B : Nat → Bool) (i : Nat) : Nat := (kpL i B).length
theorem kp_succ (n : Nat) (B : Nat → Bool) : kpL (n + 1) B = kpL n B ++ if B n = true then [n] else [] := by
  unfold kpL
  rw [List.range_succ, List.filter_append]
  congr 1
  by_cases h : B n = true
  · rw [if_pos h, List.filter_cons_of_pos h]; rfl
  · rw [if_neg h, List.filter_cons_of_neg h]; rfl
theorem kp_get {B : Nat → Bool} {i : Nat} (h : B i = true) : ∀ {n : Nat}, i < n → (kpL n B)[rkB B i]? = some i
  | n + 1, hn => by
    rw [kp_succ]
    by_cases c : i = n
    · subst c
      rw [if_pos h, List.getElem?_append_right (by unfold rkB; omega)]
      simp [rkB]
    · have ih := kp_get h (n := n) (by omega)
      rw [List.getElem?_append_left (List.getElem?_eq_some_iff.1 ih).1]
      exact ih
theorem rk_lt {B : Nat → Bool} {i j : Nat} (h : B i = true) (hij : i < j) : rkB B i < rkB B j := (List.getElem?_eq_some_iff.1 (kp_get h hij)).1
/-- Weights and edges of the graph of the vertices that are kept. -/
def subW (W : List Int) (B : Nat → Bool) : List Int := (kpL W.length B).map fun i => geti W (i : Nat)
def eB (B : Nat → Bool) (e : List Int) : Bool := B (geti e 0).toNat && B (geti e 1).toNat
def eM (B : Nat → Bool) (e : List Int) : List Int := [(rkB B (geti e 0).toNat : Int), (rkB B (geti e 1).toNat : Int)]
def subE (E : List (List Int)) (B : Nat → Bool) : List (List Int) := (E.filter (eB B)).map (eM B)
theorem subW_len (W : List Int) (B : Nat → Bool) : (subW W B).length = rkB B W.length := by simp [subW, rkB]
theorem eM_lx {n : Nat} {B : Nat → Bool} {a b : List Int} (ha : EIn n a) (hb : EIn n b) (ka : eB B a = true) (h : lx a b) : lx (eM B a) (eM B b) := by
  unfold eB at ka
  rw [Bool.and_eq_true] at ka
  obtain ⟨_, a0, a1, _⟩ := ha
  obtain ⟨_, b0, b1, _⟩ := hb
  have g0 : ∀ e : List Int, geti (eM B e) 0 = (rkB B (geti e 0).toNat : Int) := fun e => rfl
  have g1 : ∀ e : List Int, geti (eM B e) 1 = (rkB B (geti e 1).toNat : Int) := fun e => rfl
  unfold lx at *
  rw [g0, g0, g1, g1]
  rcases h with h | ⟨h1, h2⟩
  · left
    have := rk_lt ka.1 (show (geti a 0).toNat < (geti b 0).toNat by omega)
    omega
  · right
    rw [h1]
    refine ⟨rfl, ?_⟩
    have := rk_lt ka.2 (show (geti a 1).toNat < (geti b 1).toNat by omega)
    omega
theorem sub_fo {W : List Int} {E : List (List Int)} (B : Nat → Bool) (h : FoE W.length E) : FoE (subW W B).length (subE E B) where
  row e he := by
    obtain ⟨d, hd, rfl⟩ := List.mem_map.1 he
    obtain ⟨hd, hk⟩ := List.mem_filter.1 hd
    unfold eB at hk
    rw [Bool.and_eq_true] at hk
    obtain ⟨_, d0, d1, d2⟩ := h.row d hd
    have h1 := rk_lt hk.1 (show (geti d 0).toNat < (geti d 1).toNat by omega)
    have h2 := rk_lt hk.2 (show (geti d 1).toNat < W.length by omega)
    rw [subW_len]
    refine ⟨rfl, ?_, ?_, ?_⟩
    · show 0 ≤ (rkB B (geti d 0).toNat : Int); omega
    · show (rkB B (geti d 0).toNat : Int) < rkB B (geti d 1).toNat; omega
    · show (rkB B (geti d 1).toNat : Int) < rkB B W.length; omega
  srt := by
    unfold subE
    rw [List.pairwise_map]
    refine List.Pairwise.imp_of_mem ?_ (h.srt.sublist List.filter_sublist)
    intro a b ha hb hl
    obtain ⟨ha, ka⟩ := List.mem_filter.1 ha
    obtain ⟨hb, kb⟩ := List.mem_filter.1 hb
    exact eM_lx (h.row a ha) (h.row b hb) ka hl
  cut e he := by
    obtain ⟨d, hd, rfl⟩ := List.mem_map.1 he
    obtain ⟨hd, hk⟩ := List.mem_filter.1 hd
    obtain ⟨c, c1, c2⟩ := h.cut d hd
    have key : ∀ f ∈ E, eB B f = true → ((kpL W.length B).getD (rkB B (geti f 0).toNat) 0 : Int) = geti f 0 ∧ ((kpL W.length B).getD (rkB B (geti f 1).toNat) 0 : Int) = geti f 1 := fun f hf kf => by
      unfold eB at kf
      rw [Bool.and_eq_true] at kf
      obtain ⟨_, f0, f1, f2⟩ := h.row f hf
      have e0 := kp_get kf.1 (show (geti f 0).toNat < W.length by omega)
      have e1 := kp_get kf.2 (show (geti f 1).toNat < W.length by omega)
      rw [List.getD_eq_getElem?_getD, List.getD_eq_getElem?_getD, e0, e1]
      simp only [Option.getD_some]
      omega
    refine ⟨fun x => c ((kpL W.length B).getD x.toNat 0 : Int), ?_, fun f hf hne => ?_⟩
    · obtain ⟨k0, k1⟩ := key d hd hk
      show c ((kpL W.length B).getD (rkB B (geti d 0).toNat) 0 : Int) ≠ c ((kpL W.length B).getD (rkB B (geti d 1).toNat) 0 : Int)
      rw [k0, k1]; exact c1
    · obtain ⟨g, hg, rfl⟩ := List.mem_map.1 hf
      obtain ⟨hg, kg⟩ := List.mem_filter.1 hg
      obtain ⟨k0, k1⟩ := key g hg kg
      show c ((kpL W.length B).getD (rkB B (geti g 0).toNat) 0 : Int) = c ((kpL W.length B).getD (rkB B (geti g 1).toNat) 0 : Int)
      rw [k0, k1]
      exact c2 g hg fun e => hne (by rw [e])
end Go.Proofs.Ytlkhcelodcneiaa
/-
  The operations of the abstract machine that make or write memory. No condition.
-/
namespace Go.Proofs.Ytlkhcelodcneiaa
open Go Go.RowKit

section
variable {P : Program} {env : Env} {os : List AO} {d : Option Tmp} {ty : TypeId} {pos : String} {af : Array Edge} {g : Option (Nat × Bool)}

theorem below_alloc (w : World) (o : Obj) : Below w.heap.size w (w.alloc o) := (Below.refl _ _).alloc (Nat.le_refl _) o

theorem len_new {gs : List Gh} {g : Gh} : (gs ++ [g])[gs.length]? = some g := by simp

/-- A new block of cells. -/
theorem l_block {o : Oper} {T : TypeId} {avs : List AV}
    (hrun : ∀ base w gs tm, Rel base w gs env os tm → ∃ cs : List Value, (execOp (Act.eval ⟨tm, []⟩) o).run P w = .ok (.value (.pointer (some ⟨w.heap.size, 0, none⟩))) (w.alloc (.cells cs.toArray T)) ∧
      cs.length = avs.length ∧ (∀ c ∈ cs, c.oneCell' = true) ∧ ∀ i : Nat, RV w (okOf gs os) gs (cs.getD i undef) (avs.getD i .any)) :
    LOp P o env os (.optr os.length 0) env (os ++ [.bx T avs]) := by
  intro base w gs tm hr
  obtain ⟨cs, h1, h2, h3, h4⟩ := hrun base w gs tm hr
  have hbel := below_alloc w (.cells cs.toArray T)
  have hlt : w.heap.size < (w.alloc (.cells cs.toArray T)).heap.size := by simp
  have hno : AO.bx T avs ≠ .dead → ∀ b, b ∈ [w.heap.size] → w.heap.size ≤ b ∧ b < (w.alloc (.cells cs.toArray T)).heap.size := fun _ b hb => by simp at hb; omega
  have kp := keeps_new (g := ⟨.pointer (some ⟨w.heap.size, 0, none⟩), w.heap.size, [w.heap.size], []⟩) (o := .bx T avs) hr.hl hbel hno
  have hgs : ∀ (i : Nat) g', gs[i]? = some g' → (gs ++ [⟨.pointer (some ⟨w.heap.size, 0, none⟩), w.heap.size, [w.heap.size], []⟩])[i]? = some g' := fun i g' e => by
    rw [List.getElem?_append_left (List.getElem?_eq_some_iff.1 e).1]; exact e
  refine ⟨_, _, gs ++ [⟨.pointer (some ⟨w.heap.size, 0, none⟩), w.heap.size, [w.heap.size], []⟩], .inl h1, hr.new hbel _ _ hno ?_, ?_, hbel.mono hr.hb⟩
  · exact ⟨cs, heap_alloc_new w _, hr.hb, rfl, rfl, h2, h3, fun i => (h4 i).mono kp hgs⟩
  · have := RV.optr (w := w.alloc (.cells cs.toArray T)) (ok := okOf (gs ++ [⟨.pointer (some ⟨w.heap.size, 0, none⟩), w.heap.size, [w.heap.size], []⟩]) (os ++ [.bx T avs])) (i := 0) (len_new (gs := gs) (g := ⟨.pointer (some ⟨w.heap.size, 0, none⟩), w.heap.size, [w.heap.size], []⟩))
    rw [hr.hl] at this
    exact this

theorem l_box_agg {T : TypeId} {x : Operand} {avs : List AV} (hx : AV.ev env x = .agg avs) : LOp P ⟨d, .box T x, ty, pos, af, g⟩ env os (.optr os.length 0) env (os ++ [.bx T avs]) := by
  refine l_block fun base w gs tm hr => ?_
  have h := hr.ev x
  rw [hx] at h
  generalize hv : Act.eval ⟨tm, []⟩ x = v at h
  cases h with
  | agg a1 a2 a3 => exact ⟨_, by simp [execOp, hv, Instr.box, newVar, newRow, Value.cells], a1, a2, a3⟩

theorem l_box_val {T : TypeId} {x : Operand} {v : Value} (hx : AV.ev env x = .val v) (h1 : v.oneCell' = true) (hc : v.cells = #[v]) : LOp P ⟨d, .box T x, ty, pos, af, g⟩ env os (.optr os.length 0) env (os ++ [.bx T [.val v]]) := by
  refine l_block fun base w gs tm hr => ?_
  refine ⟨[v], by simp [execOp, hr.evv hx, Instr.box, newVar, newRow, hc], rfl, by simpa using h1, fun i => ?_⟩
  match i with
  | 0 => exact .val _
  | i + 1 => exact .any _

theorem l_alloc_str {T : TypeId} {n : Nat} {zs : List Value} [ht : TStruct P T n zs] (h1 : ∀ z ∈ zs, z.oneCell' = true) : LOp P ⟨d, .alloc T, ty, pos, af, g⟩ env os (.optr os.length 0) env (os ++ [.bx T (zs.map AV.val)]) := by
  refine l_block fun base w gs tm hr => ?_
  obtain ⟨ii, hi, hs, hz, hl⟩ := ht.info
  refine ⟨zs, by simp [execOp, Instr.alloc, zeroValue, typeInfo, hi, hz, newVar, newRow, Value.cells], by simp, h1, fun i => ?_⟩
  simp only [List.getD_eq_getElem?_getD, List.getElem?_map]
  cases zs[i]? with
  | none => exact .any _
  | some z => exact .val _

theorem l_alloc_one {T : TypeId} {z : Value} {bytes : Nat} [ht : TElem P T z bytes] (h1 : z.oneCell' = true) (hc : z.cells = #[z]) : LOp P ⟨d, .alloc T, ty, pos, af, g⟩ env os (.optr os.length 0) env (os ++ [.bx T [.val z]]) := by
  refine l_block fun base w gs tm hr => ?_
  obtain ⟨ii, hi, hs, hz, _⟩ := ht.info
  refine ⟨[z], by simp [execOp, Instr.alloc, zeroValue, typeInfo, hi, hz, newVar, newRow, hc], rfl, by simpa using h1, fun i => ?_⟩
  match i with
  | 0 => exact .val _
  | i + 1 => exact .any _

/-! ### New slices -/
theorem l_new {o : Oper} {obj : AO}
    (h : ∀ base w gs tm, Rel base w gs env os tm → ∃ w' gh, (execOp (Act.eval ⟨tm, []⟩) o).run P w = .ok (.value gh.v) w' ∧ Below w.heap.size w w' ∧ (∀ b, b ∈ gh.bl → w.heap.size ≤ b ∧ b < w'.heap.size) ∧ ∀ ok gs', RO base w' ok gs' gh obj) :
    LOp P o env os (.own os.length) env (os ++ [obj]) := by
  intro base w gs tm hr
  obtain ⟨w', gh, h1, h2, h3, h4⟩ := h base w gs tm hr
  refine ⟨gh.v, w', gs ++ [gh], .inl h1, hr.new h2 obj gh (fun _ => h3) (h4 _ _), ?_, h2.mono hr.hb⟩
  have := RV.own (w := w') (ok := okOf (gs ++ [gh]) (os ++ [obj])) (len_new (gs := gs) (g := gh))
  rw [hr.hl] at this
  exact this

theorem l_make_int {t e : TypeId} {bytes : Nat} [ht : TSlice P t e] [he : TElem P e (.int .i64 0) bytes] {x y : Operand} {n : Int} (hx : AV.ev env x = .i n) (hy : AV.ev env y = .i n) (h0 : 0 ≤ n) (hb : (bytes : Int) * n ≤ 281474976710656) (hm : n ≤ 9223372036854775807) :
    LOp P ⟨d, .makeSlice t x y, ty, pos, af, g⟩ env os (.own os.length) env (os ++ [.sli e (List.replicate n.toNat 0)]) := by
  refine l_new fun base w gs tm hr => ?_
  obtain ⟨ii, hi, hs, hz, hby⟩ := he.info
  obtain ⟨m, rfl⟩ := Int.eq_ofNat_of_zero_le h0
  have hb' : ii.bytes * m ≤ 281474976710656 := by
    have : ((bytes * m : Nat) : Int) ≤ 281474976710656 := by rw [Int.natCast_mul]; exact hb
    rw [hby]; omega
  obtain ⟨w', h1, h2, h3⟩ := run_make_full (P := P) w base t e ii _ 1 ht.und hi hz hs .i64 .i64 m hb' (by simp [maxLen]; omega) hr.hb
  have hbel : Below w.heap.size w w' := (Below.refl _ _).grown h3 (Nat.le_refl _) (fun k hk => by cases hk)
  have hlt := h2.lt w.heap.size rfl
  refine ⟨w', ⟨.slice (some ⟨w.heap.size, 0, none⟩) m m, w.heap.size, [w.heap.size], []⟩, by simp only [execOp, hr.evv hx, hr.evv hy, Sem.run_bind, h1, Result.andThen_ok, Sem.run_pure], hbel,
    fun b hb => by simp at hb; omega, fun ok gs' => ⟨?_, fun x hx => by rw [List.eq_of_mem_replicate hx]; unfold inI; omega, .inr ⟨rfl, rfl⟩⟩⟩
  rw [show (Value.int IntKind.i64 0).cells = #[.int .i64 0] from rfl, toList_madeCells_one] at h2
  simpa using h2

theorem l_make_rows {t e : TypeId} {bytes : Nat} [ht : TSlice P t e] [he : TElem P e (.slice none 0 0) bytes] (e2 : TypeId) {x y : Operand} {n : Int} (hx : AV.ev env x = .i n) (hy : AV.ev env y = .i n) (h0 : 0 ≤ n) (hb : (bytes : Int) * n ≤ 281474976710656) (hm : n ≤ 9223372036854775807) :
    LOp P ⟨d, .makeSlice t x y, ty, pos, af, g⟩ env os (.own os.length) env (os ++ [.sls e e2 (List.replicate n.toNat [])]) := by
  refine l_new fun base w gs tm hr => ?_
  obtain ⟨ii, hi, hs, hz, hby⟩ := he.info
  obtain ⟨m, rfl⟩ := Int.eq_ofNat_of_zero_le h0
  have hb' : ii.bytes * m ≤ 281474976710656 := by
    have : ((bytes * m : Nat) : Int) ≤ 281474976710656 := by rw [Int.natCast_mul]; exact hb
    rw [hby]; omega
  obtain ⟨w', h1, h2, h3⟩ := run_make_full (P := P) w base t e ii _ 1 ht.und hi hz hs .i64 .i64 m hb' (by simp [maxLen]; omega) hr.hb
  have hbel : Below w.heap.size w w' := (Below.refl _ _).grown h3 (Nat.le_refl _) (fun k hk => by cases hk)
  have hlt := h2.lt w.heap.size rfl
  rw [show (Value.slice none 0 0).cells = #[.slice none 0 0] from rfl, toList_madeCells_one] at h2
  refine ⟨w', ⟨.slice (some ⟨w.heap.size, 0, none⟩) m m, w.heap.size, [w.heap.size], List.replicate m (.slice none 0 0)⟩, by simp only [execOp, hr.evv hx, hr.evv hy, Sem.run_bind, h1, Result.andThen_ok, Sem.run_pure], hbel,
    fun b hb => by simp at hb; omega, fun ok gs' => ⟨List.replicate m (.slice none 0 0), List.replicate m [], [w.heap.size], by simpa using h2, by simp, by simp, rfl, fun i u hu => ?_, .inr ⟨rfl, rfl⟩, by simp, by simp⟩⟩
  have hu' : u = .slice none 0 0 := List.eq_of_mem_replicate (List.mem_of_getElem? hu)
  have e0 : (List.replicate m ([] : List Int)).getD i [] = [] := by simp [List.getD_eq_getElem?_getD, List.getElem?_replicate]; split <;> rfl
  have e1 : (List.replicate m ([] : List Nat)).getD i [] = [] := by simp [List.getD_eq_getElem?_getD, List.getElem?_replicate]; split <;> rfl
  subst hu'
  rw [Int.toNat_natCast, e0, e1]
  exact ⟨World.ownsRow_nil _ _ _ _, fun x hx => (by cases hx), rfl⟩

/-! ### Stores -/
theorem run_store_cell {t : TypeId} [ht : TCell P t] {a : Addr} {u v : Value} {w : World} (hc : w.cell? a = some u) (hf : w.frozen? a = false) (h1 : v.oneCell' = true) (hv : v.cells = #[v]) :
    (Instr.storeAt t (.pointer (some a)) v).run P w = .ok () (w.setCell a v) := by
  obtain ⟨ii, hi, hs⟩ := ht.info
  have hst := run_store P w a v .plain h1
  simp only [hc, hf] at hst
  simp only [Instr.storeAt, Instr.sureAddr, storeVar, sizeOf, typeInfo, hi, hs, hv, storeCells, Sem.run_bind, Sem.run_pure, Result.andThen_ok, run_program, Addr.add_zero', Sem.run_ite]
  simp [hst]

theorem l_store_sli {t : TypeId} [ht : TCell P t] {x y : Operand} {h i : Nat} {e : TypeId} {xs : List Int} {n : Int} (hx : AV.ev env x = .optr h i) (hs : os[h]? = some (.sli e xs)) (hi : i < xs.length) (hy : AV.ev env y = .i n) (hn : inI n) :
    LOp P ⟨d, .store t x y, ty, pos, af, g⟩ env os .any env (os.set h (.sli e (xs.set i n))) := by
  intro base w gs tm hr
  have hh := hr.ev x
  rw [hx] at hh
  generalize hv : Act.eval ⟨tm, []⟩ x = v at hh
  cases hh with
  | @optr _ _ gh hg =>
    obtain ⟨a1, a2, a3⟩ := hr.ho _ _ _ hg hs
    obtain ⟨b, cap, e1, e2, e3, e4⟩ := own_slice a1 (i := i) (by simpa using hi)
    have eb := a3.eq e2
    rw [e1] at a1
    have hst := a1.stored i (.int .i64 n)
    have hcell : w.cell? ⟨gh.b, i, none⟩ = some (.int .i64 (xs.getD i 0)) := by rw [eb, e3]; simp [hi]
    have hbl : gh.bl = [gh.b] := by
      rcases a3 with ⟨h1, _⟩ | ⟨_, h2⟩
      · rw [h1] at e2; cases e2
      · exact h2
    have hother : ∀ c, c < w.heap.size → c ∉ gh.bl → (w.setCell ⟨b, i, none⟩ (.int .i64 n)).heap[c]? = w.heap[c]? := fun c hc hcb => hst.2.block c hc (fun e' => hcb (by rw [hbl, eb]; simpa using e'))
    refine ⟨undef, w.setCell ⟨b, i, none⟩ (.int .i64 n), gs, .inr ⟨?_, rfl⟩, hr.upd hg hs trivial _ trivial hother hst.2.size fun _ => ?_, .any _, ?_⟩
    · have := run_store_cell (P := P) (t := t) (a := ⟨gh.b, i, none⟩) hcell (by rw [eb]; exact e4) (v := .int .i64 n) rfl rfl
      rw [eb] at this hv
      simp only [execOp, hv, hr.evv hy, Sem.run_bind, this, Result.andThen_ok, Sem.run_pure]
    · refine ⟨?_, fun x hx => ?_, a3⟩
      · rw [e1]
        have := hst.1
        rw [List.length_set]
        simpa [List.map_set] using this
      · rcases List.mem_or_eq_of_mem_set hx with h1 | rfl
        · exact a2 x h1
        · exact hn
    · have hbb : base ≤ b := by rw [← eb]; exact (hr.hn _ _ _ hg hs (by simp) gh.b (by simp [hbl])).1
      exact (Below.refl _ _).setCell (p := ⟨b, i, none⟩) hbb _

/-- A value of one cell goes into a cell of a variable. -/
theorem l_store_bx {t : TypeId} [ht : TCell P t] {x y : Operand} {h i : Nat} {T : TypeId} {avs : List AV} {a : AV} (hx : AV.ev env x = .optr h i) (hs : os[h]? = some (.bx T avs)) (hi : i < avs.length) (hy : AV.ev env y = a)
    (h1 : ∀ base w gs tm, Rel base w gs env os tm → ∀ v, RV w (okOf gs os) gs v a → v.oneCell' = true ∧ v.cells = #[v]) :
    LOp P ⟨d, .store t x y, ty, pos, af, g⟩ env os .any env (os.set h (.bx T (avs.set i a))) := by
  intro base w gs tm hr
  have hh := hr.ev x
  have hyv := hr.ev y
  rw [hx] at hh
  rw [hy] at hyv
  generalize hv : Act.eval ⟨tm, []⟩ x = v at hh
  generalize hu : Act.eval ⟨tm, []⟩ y = u at hyv
  obtain ⟨o1, o2⟩ := h1 base w gs tm hr u hyv
  cases hh with
  | @optr _ _ gh hg =>
    obtain ⟨cs, a1, a2, a3, a4, a5, a6, a7⟩ := hr.ho _ _ _ hg hs
    have hic : i < cs.length := by omega
    have hcell : w.cell? ⟨gh.b, i, none⟩ = some cs[i] := by rw [cell_of_row w _ i _ T (0, 0) a1]; simp [hic]
    have hother : ∀ c, c < w.heap.size → c ∉ gh.bl → (w.setCell ⟨gh.b, i, none⟩ u).heap[c]? = w.heap[c]? := fun c hc hcb => heap_setCell_other w ⟨gh.b, i, none⟩ c u (fun e' => hcb (by rw [a3]; simpa using e'))
    refine ⟨undef, w.setCell ⟨gh.b, i, none⟩ u, gs, .inr ⟨?_, rfl⟩, hr.upd hg hs trivial _ trivial hother (by simp) fun kp => ?_, .any _, (Below.refl _ _).setCell (p := ⟨gh.b, i, none⟩) a2 _⟩
    · have := run_store_cell (P := P) (t := t) (a := ⟨gh.b, i, none⟩) hcell (frozen_of_row w _ i _ T a1) (v := u) o1 o2
      simp only [execOp, hv, hu, Sem.run_bind, this, Result.andThen_ok, Sem.run_pure]
    · refine ⟨cs.set i u, ?_, a2, a3, a4, by simpa using a5, fun c hc => ?_, fun j => ?_⟩
      · rw [heap_setCell_same w gh.b i cs.toArray T u a1]; simp
      · rcases List.mem_or_eq_of_mem_set hc with h1 | rfl
        · exact a6 c h1
        · exact o1
      · have e1 : (cs.set i u).getD j undef = if j = i then u else cs.getD j undef := by
          simp only [List.getD_eq_getElem?_getD, List.getElem?_set]
          by_cases e : i = j
          · subst e; simp [hic]
          · have e' : ¬ j = i := fun h => e h.symm
            simp [e, e']
        have e2 : (avs.set i a).getD j .any = if j = i then a else avs.getD j .any := by
          rw [getD_set]; simp [hi]
        rw [e1, e2]
        split
        · exact hyv.mono kp (fun _ _ e => e)
        · exact (a7 j).mono kp (fun _ _ e => e)

theorem one_val {v : Value} (h1 : v.oneCell' = true) (h2 : v.cells = #[v]) : ∀ base w gs tm, Rel base w gs env os tm → ∀ u, RV w (okOf gs os) gs u (.val v) → u.oneCell' = true ∧ u.cells = #[u] := by
  intro base w gs tm hr u hu
  cases hu
  exact ⟨h1, h2⟩
theorem one_ints {xs : List Int} : ∀ base w gs tm, Rel base w gs env os tm → ∀ u, RV w (okOf gs os) gs u (.ints xs) → u.oneCell' = true ∧ u.cells = #[u] := by
  intro base w gs tm hr u hu
  cases hu with | ints h => obtain ⟨⟨a, cap, rfl, _⟩, _⟩ := h; exact ⟨rfl, rfl⟩
theorem one_intss {xss : List (List Int)} : ∀ base w gs tm, Rel base w gs env os tm → ∀ u, RV w (okOf gs os) gs u (.intss xss) → u.oneCell' = true ∧ u.cells = #[u] := by
  intro base w gs tm hr u hu
  cases hu with | intss h => obtain ⟨vs, ⟨a, cap, rfl, _⟩, _⟩ := h; exact ⟨rfl, rfl⟩
theorem one_own {h : Nat} {o : AO} (hs : os[h]? = some o) (hn : o.live) : ∀ base w gs tm, Rel base w gs env os tm → ∀ u, RV w (okOf gs os) gs u (.own h) → u.oneCell' = true ∧ u.cells = #[u] := by
  intro base w gs tm hr u hu
  cases hu with
  | own hg =>
    have ho := hr.ho _ _ _ hg hs
    cases o with
    | dead => exact hn.elim
    | keep n K => exact hn.elim
    | ob q => exact q.one ho
    | sli e xs => obtain ⟨a, cap, e1⟩ := ownsRow_slice ho.1; rw [e1]; exact ⟨rfl, rfl⟩
    | slr e xss => obtain ⟨vs, h1, _⟩ := ho; obtain ⟨a, cap, e1⟩ := ownsRow_slice h1; rw [e1]; exact ⟨rfl, rfl⟩
    | sls e e2 xss => obtain ⟨vs, bs, mb, h1, _⟩ := ho; obtain ⟨a, cap, e1⟩ := ownsRow_slice h1; rw [e1]; exact ⟨rfl, rfl⟩
    | bx T avs => obtain ⟨cs, h1, h2, h3, h4, _⟩ := ho; rw [h4]; exact ⟨rfl, rfl⟩

/-- A whole struct goes into its variable. -/
theorem l_store_str {t : TypeId} {n : Nat} {zs : List Value} [ht : TStruct P t n zs] {x y : Operand} {h : Nat} {T : TypeId} {avs l : List AV} (hx : AV.ev env x = .optr h 0) (hs : os[h]? = some (.bx T avs)) (hn : avs.length = n) (hy : AV.ev env y = .agg l) (hl : l.length = n) :
    LOp P ⟨d, .store t x y, ty, pos, af, g⟩ env os .any env (os.set h (.bx T l)) := by
  intro base w gs tm hr
  have hh := hr.ev x
  have hyv := hr.ev y
  rw [hx] at hh
  rw [hy] at hyv
  generalize hv : Act.eval ⟨tm, []⟩ x = v at hh
  generalize hu : Act.eval ⟨tm, []⟩ y = u at hyv
  cases hh with
  | @optr _ _ gh hg =>
    obtain ⟨cs, a1, a2, a3, a4, a5, a6, a7⟩ := hr.ho _ _ _ hg hs
    cases hyv with
    | @agg vs _ b1 b2 b3 =>
      obtain ⟨ii, hi, hsz, _⟩ := ht.info
      have hrun := run_storeVar_row (P := P) w gh.b T t cs.toArray vs.toArray a1 (by rw [hi]; simp [hsz, b1, hl]) (by simp; omega) (by simpa [Array.all_eq_true] using b2)
      have hset := setRow_heap w gh.b cs.toArray vs.toArray T (0, 0) a1
      have hother : ∀ c, c < w.heap.size → c ∉ gh.bl → (w.setRow gh.b vs.toArray).heap[c]? = w.heap[c]? := fun c hc hcb => setRow_other w gh.b c _ (fun e' => hcb (by rw [a3]; simpa using e'))
      refine ⟨undef, w.setRow gh.b vs.toArray, gs, .inr ⟨?_, rfl⟩, hr.upd hg hs trivial _ trivial hother (by simp) fun kp => ?_, .any _, below_setRow (Below.refl _ _) a2 _⟩
      · simp only [execOp, hv, hu, Instr.storeAt, Instr.sureAddr, Sem.run_bind, Sem.run_pure, Result.andThen_ok, hrun]
      · exact ⟨vs, hset, a2, a3, a4, b1, b2, fun j => (b3 j).mono kp (fun _ _ e => e)⟩
end

end Go.Proofs.Ytlkhcelodcneiaa
/-
  The operations of the abstract machine that lay new slices, append to them, or take parts of them. No condition.
-/
namespace Go.Proofs.Ytlkhcelodcneiaa
open Go Go.RowKit

section
variable {P : Program} {env : Env} {os : List AO} {d : Option Tmp} {ty : TypeId} {pos : String} {af : Array Edge} {g : Option (Nat × Bool)} {wl : Bool}

/-- A new slice whose cells are all given. -/
theorem l_laid {o : Oper} {e : TypeId} {zs : List Int} (hin : ∀ z ∈ zs, inI z) (hm : zs.length ≤ maxLen)
    (hrun : ∀ base w gs tm, Rel base w gs env os tm → (execOp (Act.eval ⟨tm, []⟩) o).run P w = .ok (.value (.slice (some ⟨w.heap.size, 0, none⟩) zs.length zs.length)) (w.alloc (.cells (zs.map (Value.int .i64)).toArray e))) :
    LOp P o env os (.own os.length) env (os ++ [.sli e zs]) := by
  refine l_new fun base w gs tm hr => ?_
  refine ⟨_, ⟨.slice (some ⟨w.heap.size, 0, none⟩) zs.length zs.length, w.heap.size, [w.heap.size], []⟩, hrun base w gs tm hr, below_alloc w _, fun b hb => by simp at hb; simp [hb], fun ok gs' => ?_⟩
  refine ⟨⟨by simp, .inr ⟨w.heap.size, zs.length, _, rfl, hr.hb, heap_alloc_new w _, Nat.le_refl _, hm, by simp, by rw [List.take_of_length_le (by simp)]⟩⟩, hin, .inr ⟨rfl, rfl⟩⟩

theorem ar0 : Array.range 0 = #[] := by apply Array.ext'; simp
theorem ar1 : Array.range 1 = #[0] := by apply Array.ext'; simp [List.range_succ]
theorem ar2 : Array.range 2 = #[0, 1] := by apply Array.ext'; simp [List.range_succ]
theorem l_bs0 {t e : TypeId} {bytes : Nat} [ht : TSlice P t e] [he : TElem P e (.int .i64 0) bytes] : LOp P ⟨d, .buildSlice t 0 #[], ty, pos, af, g⟩ env os (.own os.length) env (os ++ [.sli e []]) := by
  refine l_laid (zs := []) (by simp) (by simp [maxLen]) fun base w gs tm hr => ?_
  obtain ⟨ii, hi, hs, hz, hby⟩ := he.info
  simp [execOp, Instr.buildSlice, run_underlying ht.und, sizeOf, typeInfo, hi, Instr.fill, newRow, ar0]
theorem l_bs1 {t e : TypeId} {bytes : Nat} [ht : TSlice P t e] [he : TElem P e (.int .i64 0) bytes] {x : Operand} {a : Int} (hx : AV.ev env x = .i a) (ha : inI a) :
    LOp P ⟨d, .buildSlice t 1 #[(0, x)], ty, pos, af, g⟩ env os (.own os.length) env (os ++ [.sli e [a]]) := by
  refine l_laid (zs := [a]) (by simpa using ha) (by simp [maxLen]) fun base w gs tm hr => ?_
  obtain ⟨ii, hi, hs, hz, hby⟩ := he.info
  simp [execOp, Instr.buildSlice, run_underlying ht.und, sizeOf, typeInfo, zeroValue, hi, hs, hz, Instr.fill, newRow, hr.evv hx, Value.cells, ar1]
theorem l_bs2 {t e : TypeId} {bytes : Nat} [ht : TSlice P t e] [he : TElem P e (.int .i64 0) bytes] {x y : Operand} {a b : Int} (hx : AV.ev env x = .i a) (hy : AV.ev env y = .i b) (ha : inI a) (hb : inI b) :
    LOp P ⟨d, .buildSlice t 2 #[(0, x), (1, y)], ty, pos, af, g⟩ env os (.own os.length) env (os ++ [.sli e [a, b]]) := by
  refine l_laid (zs := [a, b]) (by simp; exact ⟨ha, hb⟩) (by simp [maxLen]) fun base w gs tm hr => ?_
  obtain ⟨ii, hi, hs, hz, hby⟩ := he.info
  simp [execOp, Instr.buildSlice, run_underlying ht.und, sizeOf, typeInfo, zeroValue, hi, hs, hz, Instr.fill, newRow, hr.evv hx, hr.evv hy, Value.cells, ar2]
/-! ### append -/
theorem run_append_none {t ty' e : TypeId} {i : TypeInfo} (ht : P.underlying t = some (.slice e)) (hi : P.info? e = some i) {base : Nat} {w : World} {v : Value} {n : Nat} {xs : List Value} (h : w.ownsRow base e 1 v n xs) (a : Option Addr) (c : Nat) :
    (Builtin.append_ #[t, t] ty' #[v, .slice a 0 c]).run P w = .ok v w := by
  rcases h.2 with ⟨rfl, rfl⟩ | ⟨g, cap, cur, rfl, hb, hg, hnc, hcm, hcs, htake⟩
  · simp [Builtin.append_, run_underlying ht, sizeOf, typeInfo, hi, Builtin.lenOf, Builtin.firstCells, loadCells, loadCellsFrom]
    try (cases a <;> simp)
  · cases a <;> simp [Builtin.append_, run_underlying ht, sizeOf, typeInfo, hi, Builtin.lenOf, Builtin.firstCells, loadCells, loadCellsFrom, hnc, storeCells]

theorem l_append {t e : TypeId} {bytes : Nat} [ht : TSlice P t e] [he : TElem P e (.int .i64 0) bytes] {x y : Operand} {h : Nat} {e' : TypeId} {xs ys : List Int} (hx : AV.ev env x = .own h) (hs : os[h]? = some (.sli e' xs)) (hee : e' = e)
    (hy : Imm os (AV.ev env y) (.ints ys)) (hb : (xs.length + ys.length) * bytes ≤ 140737488355328) :
    LOp P ⟨d, .call { callee := .builtin .append, args := #[x, y], argTypes := #[t, t] }, ty, pos, af, g⟩ env os (.own h) (env.mp (AV.kill h)) ((os.map (AO.kill h)).set h (.sli e (xs ++ ys))) := by
  subst hee
  intro base w gs tm hr
  have hxv := hr.ev x
  rw [hx] at hxv
  have hyv := hy.rv hr (hr.ev y)
  generalize hv : Act.eval ⟨tm, []⟩ x = v at hxv
  generalize hu : Act.eval ⟨tm, []⟩ y = u at hyv
  cases hxv with
  | @own _ gh hg =>
  cases hyv with
  | ints hys =>
    obtain ⟨⟨ad, cap, rfl, hcap, hcm, hcells⟩, hyin⟩ := hys
    obtain ⟨a1, a2, a3⟩ := hr.ho _ _ _ hg hs
    obtain ⟨ii, hi, hsz, hz, hby⟩ := he.info
    have hbase : base ≤ w.heap.size := hr.hb
    have hbase' : base ≤ w.heap.size := hr.hb
    -- the call, and what it leaves
    have key : ∃ v' w', (Builtin.append_ #[t, t] ty #[gh.v, .slice ad (ys.map (Value.int .i64)).length cap]).run P w = .ok v' w' ∧ w'.ownsRow base e' 1 v' (xs.length + ys.length) ((xs ++ ys).map (Value.int .i64)) ∧ w.grownBy w' gh.v.ownBlock ∧
        (v'.ownBlock = gh.v.ownBlock ∨ v'.ownBlock = some w.heap.size) := by
      by_cases h0 : ys = []
      · subst h0
        exact ⟨gh.v, w, run_append_none ht.und hi a1 ad cap, by simpa using a1, ⟨rfl, rfl, rfl, Nat.le_refl _, fun _ _ _ => rfl⟩, .inl rfl⟩
      · have hp : 0 < ys.length := List.length_pos_iff.2 h0
        obtain ⟨b, off, rfl, _, hc⟩ := hcells (by simpa using hp)
        have h64 : xs.length + ys.length ≤ maxLen := by
          rcases Nat.eq_zero_or_pos bytes with hb0 | hb0
          · have hx' := a1.2
            have hxl : xs.length ≤ maxLen - ys.length ∨ True := .inr trivial
            exact absurd hb0 (by have := he.pos; omega)
          · have : xs.length + ys.length ≤ (xs.length + ys.length) * bytes := Nat.le_mul_of_pos_right _ hb0
            simp only [maxLen]; omega
        obtain ⟨v', w', r1, r2, r3, _, r5⟩ := run_append_own_at (P := P) w base t ty e' ii _ 1 bytes ht.und hi hz hsz hby rfl (by omega) gh.v xs.length (xs.map (Value.int .i64)) a1 ⟨b, off, none⟩ ys.length cap (ys.map (Value.int .i64)) (by simp)
          (fun j u hj => by rw [add_none]; exact hc j u hj) (fun u hu => by obtain ⟨_, _, rfl⟩ := List.mem_map.1 hu; rfl) h64 hb hbase
        exact ⟨v', w', by simpa using r1, by simpa using r2, r3, r5⟩
    obtain ⟨v', w', r1, r2, r3, r4⟩ := key
    have hgb : ∀ b, b ∉ gh.bl → some b ≠ gh.v.ownBlock := fun b hb e => hb (a3.mem e.symm)
    -- the new ghost
    let bl' : List Nat := v'.ownBlock.toList
    let g' : Gh := ⟨v', v'.ownBlock.getD 0, bl', gh.rows⟩
    have hgb' : GB g' := by
      show (v'.ownBlock = none ∧ v'.ownBlock.toList = []) ∨ (v'.ownBlock = some (v'.ownBlock.getD 0) ∧ v'.ownBlock.toList = [v'.ownBlock.getD 0])
      cases v'.ownBlock with
      | none => exact .inl ⟨rfl, rfl⟩
      | some b => exact .inr ⟨rfl, rfl⟩
    have hlt : ∀ b, v'.ownBlock = some b → b < w'.heap.size := by
      intro b hb
      rcases r2.2 with ⟨e1, _⟩ | ⟨gg, cc, cur, e1, _, hgg, _⟩
      · rw [e1] at hb; cases hb
      · rw [e1] at hb; cases hb; exact (Array.getElem?_eq_some_iff.1 hgg).1
    refine ⟨v', w', gs.set h g', .inl ?_, hr.turn hg hs trivial g' (.sli e' (xs ++ ys)) (fun b hb hn => r3.block b hb (hgb b hn)) r3.size ?_ (fun i v hv => hv) ?_, ?_, ?_⟩
    · simp only [execOp, resolve, invoke, builtin, Sem.run_bind, Sem.run_pure, Result.andThen_ok, List.map_toArray, List.map_cons, List.map_nil, hv, hu, r1]
    · intro b hb
      have hb' : v'.ownBlock = some b := by
        have hb2 : b ∈ v'.ownBlock.toList := hb
        cases hvb : v'.ownBlock with
        | none => rw [hvb] at hb2; simp at hb2
        | some c => rw [hvb] at hb2; simp at hb2; rw [hb2]
      refine ⟨?_, hlt b hb'⟩
      rcases r4 with r4 | r4
      · left; rw [hb'] at r4; exact a3.mem r4.symm
      · right; rw [hb'] at r4; cases r4; exact Nat.le_refl _
    · intro _ _
      refine ⟨by simpa using r2, fun z hz => ?_, hgb'⟩
      rcases List.mem_append.1 hz with hz | hz
      · exact a2 z hz
      · exact hyin z hz
    · have hk : h < gs.length := (List.getElem?_eq_some_iff.1 hg).1
      exact RV.own (g := g') (by simp [hk])
    · refine ⟨r3.os, r3.tape, r3.output, r3.size, fun b hb => r3.block b (by omega) (hgb b fun hm => ?_)⟩
      have := (hr.hn _ _ _ hg hs (by simp) b hm).1
      omega

/-- To a slice that is nil. -/
theorem l_append_nil {t e : TypeId} {bytes : Nat} [ht : TSlice P t e] [he : TElem P e (.int .i64 0) bytes] {x y : Operand} {ys : List Int} (hx : AV.ev env x = .val (.slice none 0 0)) (hy : Imm os (AV.ev env y) (.ints ys)) (hb : ys.length * bytes ≤ 140737488355328) :
    LOp P ⟨d, .call { callee := .builtin .append, args := #[x, y], argTypes := #[t, t] }, ty, pos, af, g⟩ env os (.own os.length) env (os ++ [.sli e ys]) := by
  refine l_new fun base w gs tm hr => ?_
  have hyv := hy.rv hr (hr.ev y)
  generalize hu : Act.eval ⟨tm, []⟩ y = u at hyv
  cases hyv with
  | ints hys =>
    obtain ⟨⟨ad, cap, rfl, hcap, hcm, hcells⟩, hyin⟩ := hys
    obtain ⟨ii, hi, hsz, hz, hby⟩ := he.info
    have a1 : w.ownsRow base e 1 (.slice none 0 0) 0 [] := World.ownsRow_nil w base e 1
    by_cases h0 : ys = []
    · subst h0
      refine ⟨w, ⟨.slice none 0 0, 0, [], []⟩, ?_, Below.refl _ _, fun b hb => by simp at hb, fun ok gs' => ⟨by simpa using a1, hyin, .inl ⟨rfl, rfl⟩⟩⟩
      have := run_append_none (ty' := ty) ht.und hi a1 ad cap
      simp only [execOp, resolve, invoke, builtin, Sem.run_bind, Sem.run_pure, Result.andThen_ok, List.map_toArray, List.map_cons, List.map_nil, hr.evv hx, hu, this, List.length_nil]
    · have hp : 0 < ys.length := List.length_pos_iff.2 h0
      obtain ⟨b, off, rfl, _, hc⟩ := hcells (by simpa using hp)
      have h64 : 0 + ys.length ≤ maxLen := by
        have := he.pos
        have : ys.length ≤ ys.length * bytes := Nat.le_mul_of_pos_right _ this
        simp only [maxLen]; omega
      obtain ⟨v', w', r1, r2, r3, r4, r5⟩ := run_append_own_at (P := P) w base t ty e ii _ 1 bytes ht.und hi hz hsz hby rfl (by omega) (.slice none 0 0) 0 [] a1 ⟨b, off, none⟩ ys.length cap (ys.map (Value.int .i64)) (by simp)
        (fun j u hj => by rw [add_none]; exact hc j u hj) (fun u hu => by obtain ⟨_, _, rfl⟩ := List.mem_map.1 hu; rfl) h64 (by simpa using hb) hr.hb
      have hne : ¬ v' = .slice none 0 0 := fun e => by have := (r4.1 e).2; omega
      rcases r2.2 with ⟨e1, _⟩ | ⟨gg, cc, cur, e1, e2, hgg, _⟩
      · exact absurd e1 hne
      · have hob : v'.ownBlock = some w.heap.size := by
          rcases r5 with r5 | r5
          · rw [e1] at r5; cases r5
          · exact r5
        have egg : gg = w.heap.size := by rw [e1] at hob; cases hob; rfl
        have hlt := (Array.getElem?_eq_some_iff.1 hgg).1
        refine ⟨w', ⟨v', w.heap.size, [w.heap.size], []⟩, ?_, (Below.refl _ _).grown r3 (Nat.le_refl _) (fun k hk => by cases hk), fun b hb => by simp at hb; omega, fun ok gs' => ⟨by simpa using r2, hyin, .inr ⟨hob, rfl⟩⟩⟩
        simp only [execOp, resolve, invoke, builtin, Sem.run_bind, Sem.run_pure, Result.andThen_ok, List.map_toArray, List.map_cons, List.map_nil, hr.evv hx, hu]
        rw [List.length_map, r1]
        simp

/-! ### Parts of slices that are read -/
theorem RowAt.sub {w : World} {ok : Nat → Prop} {a : Option Addr} {n cap : Nat} {vs : List Value} (h : RowAt w ok (.slice a n cap) vs) (lo hi : Nat) (h1 : lo ≤ hi) (h2 : hi ≤ vs.length) :
    RowAt w ok (sliced a lo hi cap 1) ((vs.take hi).drop lo) := by
  obtain ⟨a', cap', e, h3, h4, h5⟩ := h
  cases e
  have hl : ((vs.take hi).drop lo).length = hi - lo := by simp; omega
  refine ⟨_, cap - lo, by rw [hl]; rfl, by omega, by omega, fun hp => ?_⟩
  rw [hl] at hp
  obtain ⟨b, off, rfl, hok, hc⟩ := h5 (by omega)
  refine ⟨b, off + lo, ?_, hok, fun i u hu => ?_⟩
  · rw [if_neg (by omega)]; simp [add_none]
  · have hi' := (List.getElem?_eq_some_iff.1 hu).1
    rw [hl] at hi'
    rw [List.getElem?_drop, List.getElem?_take, if_pos (by omega)] at hu
    rw [Nat.add_assoc]
    exact hc (lo + i) u hu
theorem IntsAt.sub {w : World} {ok : Nat → Prop} {a : Option Addr} {n cap : Nat} {xs : List Int} (h : IntsAt w ok (.slice a n cap) xs) (lo hi : Nat) (h1 : lo ≤ hi) (h2 : hi ≤ xs.length) :
    IntsAt w ok (sliced a lo hi cap 1) ((xs.take hi).drop lo) := by
  refine ⟨?_, fun x hx => h.2 x (List.mem_of_mem_take (List.mem_of_mem_drop hx))⟩
  rw [List.map_drop, List.map_take]
  exact h.1.sub lo hi h1 (by simpa using h2)

theorem IntsAt.slice {w : World} {ok : Nat → Prop} {v : Value} {xs : List Int} (h : IntsAt w ok v xs) : ∃ a cap, v = .slice a xs.length cap ∧ xs.length ≤ cap := by
  obtain ⟨⟨a, cap, e, h1, _⟩, _⟩ := h
  simp at e h1
  exact ⟨a, cap, e, h1⟩

/-- The element's cells. -/
theorem run_size {e : TypeId} [he : TCell P e] (w : World) : (sizeOf e).run P w = .ok 1 w := by
  obtain ⟨ii, hi, hs⟩ := he.info
  simp [sizeOf, typeInfo, hi, hs]
theorem elem_of {t e : TypeId} (ht : P.underlying t = some (.slice e)) : P.elem t = e := by simp [Program.elem, ht]

theorem q_slice_hi {t e : TypeId} [ht : TSlice P t e] [he : TCell P e] {x y : Operand} {xs : List Int} {n : Int} (hx : AV.ev env x = .ints xs) (hy : AV.ev env y = .i n) (h0 : 0 ≤ n) (h1 : n ≤ xs.length) :
    QOp P wl ⟨d, .slice t x none (some y) none, ty, pos, af, g⟩ env os (.ints (xs.take n.toNat)) :=
  .of_run fun _ w gs tm hr => by
    have h := hr.ev x
    rw [hx] at h
    generalize hv : Act.eval ⟨tm, []⟩ x = v at h
    cases h with
    | ints hxs =>
      obtain ⟨a, cap, rfl, hc⟩ := hxs.slice
      have e1 := elem_of (P := P) ht.und
      refine ⟨_, .ints (by simpa using hxs.sub 0 n.toNat (by omega) (by omega)), fun w' _ => ?_⟩
      have hrun := run_slice_h (P := P) w' t a xs.length cap (by rw [e1]; exact ht.und) .i64 n h0 (by omega)
      rw [e1, run_size] at hrun
      have hat := run_sliceAt_slice (P := P) w' t (.slice a xs.length cap) none (some (.int .i64 n)) none (by rw [e1]; exact ht.und)
      simp only [execOp, hv, hr.evv hy, Option.map_none, Option.map_some, Sem.run_bind, hat, hrun, Result.andThen_ok, Sem.run_pure]
theorem q_slice_lo {t e : TypeId} [ht : TSlice P t e] [he : TCell P e] {x y : Operand} {xs : List Int} {n : Int} (hx : AV.ev env x = .ints xs) (hy : AV.ev env y = .i n) (h0 : 0 ≤ n) (h1 : n ≤ xs.length) :
    QOp P wl ⟨d, .slice t x (some y) none none, ty, pos, af, g⟩ env os (.ints (xs.drop n.toNat)) :=
  .of_run fun _ w gs tm hr => by
    have h := hr.ev x
    rw [hx] at h
    generalize hv : Act.eval ⟨tm, []⟩ x = v at h
    cases h with
    | ints hxs =>
      obtain ⟨a, cap, rfl, hc⟩ := hxs.slice
      have e1 := elem_of (P := P) ht.und
      refine ⟨_, .ints (by simpa using hxs.sub n.toNat xs.length (by omega) (by omega)), fun w' _ => ?_⟩
      have hrun := run_slice_l (P := P) w' t a xs.length cap (by rw [e1]; exact ht.und) .i64 n h0 h1
      rw [e1, run_size] at hrun
      have hat := run_sliceAt_slice (P := P) w' t (.slice a xs.length cap) (some (.int .i64 n)) none none (by rw [e1]; exact ht.und)
      simp only [execOp, hv, hr.evv hy, Option.map_none, Option.map_some, Sem.run_bind, hat, hrun, Result.andThen_ok, Sem.run_pure]
theorem q_slice_lh {t e : TypeId} [ht : TSlice P t e] [he : TCell P e] {x y z : Operand} {xs : List Int} {m n : Int} (hx : AV.ev env x = .ints xs) (hy : AV.ev env y = .i m) (hz : AV.ev env z = .i n) (h0 : 0 ≤ m) (h1 : m ≤ n) (h2 : n ≤ xs.length) :
    QOp P wl ⟨d, .slice t x (some y) (some z) none, ty, pos, af, g⟩ env os (.ints ((xs.take n.toNat).drop m.toNat)) :=
  .of_run fun _ w gs tm hr => by
    have h := hr.ev x
    rw [hx] at h
    generalize hv : Act.eval ⟨tm, []⟩ x = v at h
    cases h with
    | ints hxs =>
      obtain ⟨a, cap, rfl, hc⟩ := hxs.slice
      have e1 := elem_of (P := P) ht.und
      refine ⟨_, .ints (hxs.sub m.toNat n.toNat (by omega) (by omega)), fun w' _ => ?_⟩
      have hrun := run_slice_lh (P := P) w' t a xs.length cap (by rw [e1]; exact ht.und) .i64 .i64 m n h0 h1 (by omega)
      rw [e1, run_size] at hrun
      have hat := run_sliceAt_slice (P := P) w' t (.slice a xs.length cap) (some (.int .i64 m)) (some (.int .i64 n)) none (by rw [e1]; exact ht.und)
      simp only [execOp, hv, hr.evv hy, hr.evv hz, Option.map_some, Option.map_none, Sem.run_bind, hat, hrun, Result.andThen_ok, Sem.run_pure]

/-! ### Parts of the call's own slices -/
theorem sliced_own {w : World} {base : Nat} {e : TypeId} {gh : Gh} {xs : List Int} (a1 : w.ownsRow base e 1 gh.v xs.length (xs.map (Value.int .i64))) (a3 : GB gh) : ∃ a cap, gh.v = .slice a xs.length cap ∧ xs.length ≤ cap ∧ cap ≤ maxLen ∧ (0 < cap → a = some ⟨gh.b, 0, none⟩) := by
  rcases a1.2 with ⟨e1, e2⟩ | ⟨b, cap, cur, e1, e2, e3, e4, e5, _⟩
  · exact ⟨none, 0, by rw [e1, e2], by omega, by simp [maxLen], fun h => by omega⟩
  · refine ⟨some ⟨b, 0, none⟩, cap, e1, e4, e5, fun _ => ?_⟩
    rw [a3.eq (b := b) (by rw [e1]; rfl)]

theorem q_oslice_lo {t e : TypeId} [ht : TSlice P t e] [he : TCell P e] {x y : Operand} {h : Nat} {e' : TypeId} {xs : List Int} {n : Int} (hx : AV.ev env x = .own h) (hs : os[h]? = some (.sli e' xs)) (hy : AV.ev env y = .i n) (h0 : 0 ≤ n) (h1 : n ≤ xs.length) :
    QOp P wl ⟨d, .slice t x (some y) none none, ty, pos, af, g⟩ env os (.osub h n.toNat (xs.length - n.toNat)) :=
  .of_run fun _ w gs tm hr => by
    have hh := hr.ev x
    rw [hx] at hh
    generalize hv : Act.eval ⟨tm, []⟩ x = v at hh
    cases hh with
    | @own _ gh hg =>
      obtain ⟨a1, a2, a3⟩ := hr.ho _ _ _ hg hs
      obtain ⟨a, cap, ev, hc, hm, ha⟩ := sliced_own a1 a3
      have e1 := elem_of (P := P) ht.und
      refine ⟨sliced a n.toNat xs.length cap 1, ?_, fun w' _ => ?_⟩
      · refine RV.osub hg (fun hp => ?_) (by omega) (by omega)
        rw [if_neg (by omega), ha (by omega)]
        simp [add_none]
      · have hrun := run_slice_l (P := P) w' t a xs.length cap (by rw [e1]; exact ht.und) .i64 n h0 h1
        rw [e1, run_size] at hrun
        have hat := run_sliceAt_slice (P := P) w' t (.slice a xs.length cap) (some (.int .i64 n)) none none (by rw [e1]; exact ht.und)
        simp only [execOp, hv, ev, hr.evv hy, Option.map_none, Option.map_some, Sem.run_bind, hat, hrun, Result.andThen_ok, Sem.run_pure]
theorem q_oslice_hi {t e : TypeId} [ht : TSlice P t e] [he : TCell P e] {x y : Operand} {h : Nat} {e' : TypeId} {xs : List Int} {n : Int} (hx : AV.ev env x = .own h) (hs : os[h]? = some (.sli e' xs)) (hy : AV.ev env y = .i n) (h0 : 0 ≤ n) (h1 : n ≤ xs.length) :
    QOp P wl ⟨d, .slice t x none (some y) none, ty, pos, af, g⟩ env os (.osub h 0 n.toNat) :=
  .of_run fun _ w gs tm hr => by
    have hh := hr.ev x
    rw [hx] at hh
    generalize hv : Act.eval ⟨tm, []⟩ x = v at hh
    cases hh with
    | @own _ gh hg =>
      obtain ⟨a1, a2, a3⟩ := hr.ho _ _ _ hg hs
      obtain ⟨a, cap, ev, hc, hm, ha⟩ := sliced_own a1 a3
      have e1 := elem_of (P := P) ht.und
      refine ⟨sliced a 0 n.toNat cap 1, ?_, fun w' _ => ?_⟩
      · refine RV.osub hg (fun hp => ?_) (by omega) (by omega)
        rw [if_neg (by omega), ha (by omega)]
        simp [add_none]
      · have hrun := run_slice_h (P := P) w' t a xs.length cap (by rw [e1]; exact ht.und) .i64 n h0 (by omega)
        rw [e1, run_size] at hrun
        have hat := run_sliceAt_slice (P := P) w' t (.slice a xs.length cap) none (some (.int .i64 n)) none (by rw [e1]; exact ht.und)
        simp only [execOp, hv, ev, hr.evv hy, Option.map_none, Option.map_some, Sem.run_bind, hat, hrun, Result.andThen_ok, Sem.run_pure]

/-! ### copy -/
/-- Over a list from place 'off' on, as far as there is room. -/
def over (xs : List Int) (off len : Nat) (ys : List Int) : List Int := xs.take off ++ (ys.take len ++ xs.drop (off + min len ys.length))

theorem over_len {xs ys : List Int} {off len : Nat} (h : off + len ≤ xs.length) : (over xs off len ys).length = xs.length := by
  simp [over]; omega

/-- Where a copy goes to: all of a slice, or a part. -/
inductive Dst (os : List AO) (h : Nat) (off len : Nat) : AV → Prop
  | own {e : TypeId} {xs : List Int} : os[h]? = some (.sli e xs) → off = 0 → len = xs.length → Dst os h off len (.own h)
  | osub : Dst os h off len (.osub h off len)

theorem l_copy {t e : TypeId} {bytes : Nat} [ht : TSlice P t e] [he : TElem P e (.int .i64 0) bytes] {x y : Operand} {h off len : Nat} {e' : TypeId} {xs ys : List Int} {a : AV} (hx : AV.ev env x = a) (hd : Dst os h off len a) (hs : os[h]? = some (.sli e' xs)) (hle : off + len ≤ xs.length)
    (hy : Imm os (AV.ev env y) (.ints ys)) :
    LOp P ⟨d, .call { callee := .builtin .copy, args := #[x, y], argTypes := #[t, t] }, ty, pos, af, g⟩ env os (.i (min len ys.length : Nat)) env (os.set h (.sli e' (over xs off len ys))) := by
  intro base w gs tm hr
  have hxv := hr.ev x
  rw [hx] at hxv
  have hyv := hy.rv hr (hr.ev y)
  generalize hv : Act.eval ⟨tm, []⟩ x = v at hxv
  generalize hu : Act.eval ⟨tm, []⟩ y = u at hyv
  obtain ⟨gh, p, cap, hg, rfl, hp⟩ : ∃ gh p cap, gs[h]? = some gh ∧ v = .slice p len cap ∧ (0 < len → p = some ⟨gh.b, off, none⟩) := by
    cases hd with
    | own h1 h2 h3 =>
      cases hxv with
      | @own _ gh hg =>
        obtain ⟨a1, a2, a3⟩ := hr.ho _ _ _ hg h1
        obtain ⟨p, cap, ev, hc, hm, ha⟩ := sliced_own a1 a3
        subst h2 h3
        exact ⟨gh, p, cap, hg, ev, fun h0 => ha (by omega)⟩
    | osub =>
      cases hxv with
      | osub hg h1 h2 h3 => exact ⟨_, _, _, hg, rfl, h1⟩
  cases hyv with
  | ints hys =>
    obtain ⟨⟨ad, scap, rfl, hcap, hcm, hcells⟩, hyin⟩ := hys
    obtain ⟨a1, a2, a3⟩ := hr.ho _ _ _ hg hs
    obtain ⟨ii, hi, hsz, hz, hby⟩ := he.info
    have hsz' : (P.info? e).map (·.size) = some 1 := by rw [hi]; simp [hsz]
    have hyl : (ys.map (Value.int .i64)).length = ys.length := by simp
    by_cases h0 : min len ys.length = 0
    · -- nothing is copied
      have hrun := run_copy_none (P := P) w t t ty e p ad len cap ys.length scap ht.und hsz' (by show min ys.length len = 0; omega)
      have eo : over xs off len ys = xs := by
        unfold over
        rw [h0, Nat.add_zero, show ys.take len = [] from by apply List.eq_nil_of_length_eq_zero; rw [List.length_take]; omega]
        simp
      refine ⟨.int .i64 (min len ys.length : Nat), w, gs, .inl ?_, ?_, .val _, Below.refl _ _⟩
      · rw [hyl] at hu
        simp only [execOp, resolve, invoke, builtin, Sem.run_bind, Sem.run_pure, Result.andThen_ok, List.map_toArray, List.map_cons, List.map_nil, hv, hu, hrun, h0]
        rfl
      · rw [eo]
        have : os.set h (.sli e' xs) = os := by
          apply List.ext_getElem?
          intro i
          rw [List.getElem?_set]
          split
          · subst_vars
            have hlt := (List.getElem?_eq_some_iff.1 hs).1
            simp [hlt, (List.getElem?_eq_some_iff.1 hs).2]
          · rfl
        rw [this]; exact hr
    · obtain ⟨b, soff, rfl, _, hc⟩ := hcells (by rw [hyl]; omega)
      have hp' := hp (by omega)
      subst hp'
      rcases a1.2 with ⟨e1, e2⟩ | ⟨bb, cap', cur, e1, e2, e3, e4, e5, e6, e7⟩
      · omega
      · have ebb : gh.b = bb := a3.eq (by rw [e1]; rfl)
        have hn : ((ys.take len).map (Value.int .i64)).length = Nat.min ys.length len := by
          rw [List.length_map, List.length_take]; exact Nat.min_comm _ _
        have hrun := run_copy_row (P := P) w t t ty e gh.b off len cap ⟨b, soff, none⟩ ys.length scap cur e' ((ys.take len).map (Value.int .i64)) ht.und hsz' (by rw [ebb]; exact e3) hn
          (fun j u hj => by
            rw [add_none]
            refine hc j u ?_
            rw [List.map_take, List.getElem?_take] at hj
            split at hj
            · exact hj
            · cases hj)
          (by rw [hn]; have : Nat.min ys.length len ≤ len := Nat.min_le_right _ _; omega) (fun u hu => by obtain ⟨_, _, rfl⟩ := List.mem_map.1 hu; rfl)
        rw [List.append_assoc] at hrun
        have hl9 : ((ys.take len).map (Value.int .i64)).length = min len ys.length := by simp
        have hcl : cur.toList.length = cap' := by simp [e6]
        obtain ⟨L, hL⟩ : ∃ L, L = cur.toList.take off ++ ((ys.take len).map (Value.int .i64) ++ cur.toList.drop (off + ((ys.take len).map (Value.int .i64)).length)) := ⟨_, rfl⟩
        rw [← hL] at hrun
        have hLl : L.length = cap' := by
          rw [hL]
          simp only [List.length_append, List.length_take, List.length_drop, hl9, hcl]
          omega
        have hLx : L.take xs.length = (over xs off len ys).map (Value.int .i64) := by
          have hx7 : xs.map (Value.int .i64) = cur.toList.take xs.length := by rw [← e7, Nat.mul_one]
          rw [hL]
          unfold over
          simp only [List.map_append, List.map_take, List.map_drop, hx7]
          rw [List.take_append, List.take_append]
          simp only [List.length_take, List.length_map, List.take_take, hcl]
          congr 1
          · congr 1; omega
          · congr 1
            · rw [Nat.min_eq_right (by omega)]
            · rw [List.drop_take]
              congr 1
              omega
        have hheap : (w.setRow gh.b L.toArray).heap[bb]? = some (.cells L.toArray e' (0, 0)) := by rw [ebb]; exact setRow_heap w bb cur _ e' (0, 0) e3
        have hother : ∀ c, c < w.heap.size → c ∉ gh.bl → (w.setRow gh.b L.toArray).heap[c]? = w.heap[c]? := fun c hc hcb =>
          setRow_other w gh.b c _ (fun e' => hcb (a3.mem (by rw [e1, ← ebb, e']; rfl)))
        have hsize : (w.setRow gh.b L.toArray).heap.size = w.heap.size := by simp
        refine ⟨.int .i64 (min len ys.length : Nat), _, gs, .inl ?_, hr.upd hg hs trivial _ trivial hother (by rw [hsize]; exact Nat.le_refl _) fun _ => ?_, .val _, ?_⟩
        · rw [hyl] at hu
          have e9 : goInt ((ys.take len).map (Value.int .i64)).length = .int .i64 (min len ys.length : Nat) := by rw [hl9]; rfl
          simp only [execOp, resolve, invoke, builtin, Sem.run_bind, Sem.run_pure, Result.andThen_ok, List.map_toArray, List.map_cons, List.map_nil, hv, hu, hrun, e9]
        · refine ⟨⟨by simp [over_len hle], .inr ⟨bb, cap', _, by rw [over_len hle]; exact e1, e2, hheap, by rw [over_len hle]; exact e4, e5, by simp [hLl], ?_⟩⟩, fun z hz => ?_, a3⟩
          · rw [over_len hle, Nat.mul_one]; exact hLx
          · unfold over at hz
            rcases List.mem_append.1 hz with hz | hz
            · exact a2 z (List.mem_of_mem_take hz)
            · rcases List.mem_append.1 hz with hz | hz
              · exact hyin z (List.mem_of_mem_take hz)
              · exact a2 z (List.mem_of_mem_drop hz)
        · have hbb : base ≤ gh.b := by rw [ebb]; exact e2
          exact below_setRow (Below.refl _ _) hbb _

/-! ### Arrays and maps -/
class TArr (P : Program) (t : TypeId) (e : outParam TypeId) (n : outParam Nat) : Prop where
  und : P.underlying t = some (.array n e)
  elm : ∃ i, P.info? e = some i ∧ i.size = 1
class TMap (P : Program) (t : TypeId) (k e : outParam TypeId) : Prop where
  und : P.underlying t = some (.map k e)

/-! ### Structs laid out of their parts -/
/-- A struct all of whose n fields have one cell. -/
class TBuild (P : Program) (t : TypeId) (n : outParam Nat) (zs : outParam (List Value)) : Prop where
  info : ∃ i, P.info? t = some i ∧ i.zero = some (.agg zs.toArray) ∧ zs.length = n
  bl : (∀ parts, P.built t parts = Instr.fill (((List.range n).map fun i => (i, 1)).toArray[·]?) zs.toArray parts) ∨ (∀ parts, P.built t parts = Instr.fill (fun i => some (i * 1, 1)) zs.toArray parts)

theorem TBuild.str {t : TypeId} {n : Nat} {zs : List Value} (info : ∃ i, P.info? t = some i ∧ i.zero = some (.agg zs.toArray) ∧ zs.length = n)
    (und : ∃ fs, P.underlying t = some (.struct fs) ∧ fs.toList.mapM (fun f => (P.info? f.type).map fun i => (f.offset, i.size)) = some ((List.range n).map fun i => (i, 1))) : TBuild P t n zs := by
  refine ⟨info, .inl fun parts => ?_⟩
  obtain ⟨ii, hi, hz, _⟩ := info
  obtain ⟨fs, hu, hp⟩ := und
  unfold Program.built
  rw [hi, hu]
  simp only [hz, hp]
  rfl
/-- A value of one cell. -/
def OneC (env : Env) (os : List AO) (a : AV) : Prop := ∀ base w gs tm, Rel base w gs env os tm → ∀ v, RV w (okOf gs os) gs v a → v.oneCell' = true ∧ v.cells = #[v]

theorem rv_list {w : World} {ok : Nat → Prop} {gs : List Gh} : ∀ {vs : List Value} {l : List AV}, vs.length = l.length → (∀ i : Nat, i < vs.length → RV w ok gs (vs.getD i undef) (l.getD i .any)) → ∀ i : Nat, RV w ok gs (vs.getD i undef) (l.getD i .any) := by
  intro vs l hl h i
  rcases Nat.lt_or_ge i vs.length with hi | hi
  · exact h i hi
  · rw [show l.getD i .any = .any from by simp [List.getD_eq_getElem?_getD, List.getElem?_eq_none (show l.length ≤ i by omega)]]
    exact .any _

theorem q_build0 {t : TypeId} {n : Nat} {zs : List Value} [ht : TBuild P t n zs] (h1 : zs.all (·.oneCell') = true) : QOp P wl ⟨d, .build t #[], ty, pos, af, g⟩ env os (.agg (zs.map AV.val)) :=
  .of_run fun _ w gs tm hr => by
    refine ⟨.agg zs.toArray, .agg (by simp) (List.all_eq_true.1 h1) fun i => ?_, fun w' _ => ?_⟩
    · simp only [List.getD_eq_getElem?_getD, List.getElem?_map]
      cases zs[i]? with
      | none => exact .any _
      | some z => exact .val _
    · have hb : P.built t (#[] : Array (Nat × Value)).toList = some zs.toArray := by rcases ht.bl with e | e <;> rw [e] <;> rfl
      simp [execOp, run_build (P := P) w' t _ _ hb]
theorem q_build1 {t : TypeId} {zs : List Value} [ht : TBuild P t 1 zs] {x : Operand} {a : AV} (hx : AV.ev env x = a) (h1 : OneC env os a) : QOp P wl ⟨d, .build t #[(0, x)], ty, pos, af, g⟩ env os (.agg [a]) :=
  .of_run fun _ w gs tm hr => by
    have hv := hr.ev x
    rw [hx] at hv
    obtain ⟨o1, c1⟩ := h1 _ _ _ _ hr _ hv
    refine ⟨.agg [Act.eval ⟨tm, []⟩ x].toArray, .agg rfl (by simpa using o1) (rv_list rfl fun i hi => ?_), fun w' _ => ?_⟩
    · match i, hi with
      | 0, _ => exact hv
    · obtain ⟨ii, _, _, hl⟩ := ht.info
      match zs, hl, ht with
      | [z], _, ht =>
        have hb : P.built t (#[(0, Act.eval ⟨tm, []⟩ x)] : Array (Nat × Value)).toList = some #[Act.eval ⟨tm, []⟩ x] := by
          rcases ht.bl with e | e <;> rw [e] <;> simp [Instr.fill, c1, List.range_succ]
        simp [execOp, run_build (P := P) w' t _ _ hb]
theorem q_build2 {t : TypeId} {zs : List Value} [ht : TBuild P t 2 zs] {x y : Operand} {a b : AV} (hx : AV.ev env x = a) (hy : AV.ev env y = b) (h1 : OneC env os a) (h2 : OneC env os b) : QOp P wl ⟨d, .build t #[(0, x), (1, y)], ty, pos, af, g⟩ env os (.agg [a, b]) :=
  .of_run fun _ w gs tm hr => by
    have hv := hr.ev x
    rw [hx] at hv
    have hu := hr.ev y
    rw [hy] at hu
    obtain ⟨o1, c1⟩ := h1 _ _ _ _ hr _ hv
    obtain ⟨o2, c2⟩ := h2 _ _ _ _ hr _ hu
    refine ⟨.agg [Act.eval ⟨tm, []⟩ x, Act.eval ⟨tm, []⟩ y].toArray, .agg rfl (by simp; exact ⟨o1, o2⟩) (rv_list rfl fun i hi => ?_), fun w' _ => ?_⟩
    · match i, hi with
      | 0, _ => exact hv
      | 1, _ => exact hu
    · obtain ⟨ii, _, _, hl⟩ := ht.info
      match zs, hl, ht with
      | [z1, z2], _, ht =>
        have hb : P.built t (#[(0, Act.eval ⟨tm, []⟩ x), (1, Act.eval ⟨tm, []⟩ y)] : Array (Nat × Value)).toList = some #[Act.eval ⟨tm, []⟩ x, Act.eval ⟨tm, []⟩ y] := by
          rcases ht.bl with e | e <;> rw [e] <;> simp [Instr.fill, c1, c2, List.range_succ]
        simp [execOp, run_build (P := P) w' t _ _ hb]

/-! ### A call of a function that is a value -/
end

end Go.Proofs.Ytlkhcelodcneiaa
