/-
  Parts of the proof, one behind the other: contracts of functions and plain laws. No condition.
-/
import Derived.WalkKit
import Derived.WalkSpells
import Derived.WalkLawsBesides
import Derived.Deep.Quiet
import Derived.Deep.LoopGhost
import Derived.Great.BuildSlice
import Derived.IntWalk
import Derived.ProofKit
import Derived.OpenShut
import Derived.ShutString
import Derived.ChangeOld
import Derived.Below
import Derived.Carry
import Derived.Deep.Matrix
import Derived.Lib.SmallJoins
import Derived.Lib.LaidU8
import Derived.Laws.CopyOwn
import Derived.Maps.AppendAt
import Derived.Laws.Tables
/-
  The abstract machine over the walk's weakest preconditions: values that are only read are plain lists, memory that the call itself made stands behind handles. No condition.
-/
namespace Go.Proofs.Ytcolpjpppdmanaa
open Go Go.RowKit

def inI (n : Int) : Prop := -9223372036854775808 ≤ n ∧ n ≤ 9223372036854775807

/-! ### Rows of memory that are read as lists -/

/-- The slice value 'v' reads as the cells 'vs', which lie in one block of the class 'ok'. -/
def RowAt (w : World) (ok : Nat → Prop) (v : Value) (vs : List Value) : Prop :=
  ∃ a cap, v = .slice a vs.length cap ∧ vs.length ≤ cap ∧ cap ≤ maxLen ∧
    (0 < vs.length → ∃ b off, a = some ⟨b, off, none⟩ ∧ ok b ∧ ∀ i u, vs[i]? = some u → w.cell? ⟨b, off + i, none⟩ = some u)

def IntsAt (w : World) (ok : Nat → Prop) (v : Value) (xs : List Int) : Prop :=
  RowAt w ok v (xs.map (Value.int .i64)) ∧ ∀ x ∈ xs, inI x

def IntssAt (w : World) (ok : Nat → Prop) (v : Value) (xss : List (List Int)) : Prop :=
  ∃ vs : List Value, RowAt w ok v vs ∧ vs.length = xss.length ∧ ∀ (i : Nat) u, vs[i]? = some u → IntsAt w ok u (xss.getD i [])

/-- What lies in the class 'ok' in 'w' lies in the class 'ok'' in 'w'', unchanged. -/
def Keeps (ok ok' : Nat → Prop) (w w' : World) : Prop := ∀ b, ok b → b < w.heap.size → ok' b ∧ w'.heap[b]? = w.heap[b]?

theorem Keeps.refl (ok : Nat → Prop) (w : World) : Keeps ok ok w w := fun _ h _ => ⟨h, rfl⟩
theorem Keeps.below {ok : Nat → Prop} {w w' : World} (h : Below w.heap.size w w') : Keeps ok ok w w' := fun b hb hl => ⟨hb, h.block b hl⟩

theorem RowAt.mono {w w' : World} {ok ok' : Nat → Prop} {v : Value} {vs : List Value} (h : RowAt w ok v vs) (k : Keeps ok ok' w w') : RowAt w' ok' v vs := by
  obtain ⟨a, cap, hv, h1, h2, h3⟩ := h
  refine ⟨a, cap, hv, h1, h2, fun hp => ?_⟩
  obtain ⟨b, off, ha, hok, hc⟩ := h3 hp
  have hlt := World.block_lt_of_cell? w _ (hc 0 _ (List.getElem?_eq_getElem hp))
  have hk := k b hok hlt
  exact ⟨b, off, ha, hk.1, fun i u hu => (World.cell?_of_block (w := w) hk.2).trans (hc i u hu)⟩

theorem IntsAt.mono {w w' : World} {ok ok' : Nat → Prop} {v : Value} {xs : List Int} (h : IntsAt w ok v xs) (k : Keeps ok ok' w w') : IntsAt w' ok' v xs :=
  ⟨h.1.mono k, h.2⟩

theorem IntssAt.mono {w w' : World} {ok ok' : Nat → Prop} {v : Value} {xss : List (List Int)} (h : IntssAt w ok v xss) (k : Keeps ok ok' w w') : IntssAt w' ok' v xss :=
  let ⟨vs, h1, h2, h3⟩ := h
  ⟨vs, h1.mono k, h2, fun i u hu => (h3 i u hu).mono k⟩

/-- A way to read memory that is not written: a predicate that what is kept keeps. -/
structure Ro where
  p : World → (Nat → Prop) → Value → Prop
  up : ∀ {w w' : World} {ok ok' : Nat → Prop} {v : Value}, Keeps ok ok' w w' → p w ok v → p w' ok' v

/-! ### Abstract values, handles, objects -/

inductive AV where
  | any
  | val (v : Value)
  | ints (xs : List Int)
  | intss (xss : List (List Int))
  | iptr (xs : List Int) (i : Int)
  | iiptr (xss : List (List Int)) (i : Int)
  | own (h : Nat)
  | optr (h : Nat) (i : Nat)
  | osub (h : Nat) (off : Nat) (len : Nat)
  | orow (h : Nat) (i : Nat)
  | orptr (h : Nat) (i : Nat) (j : Nat)
  | agg (l : List AV)
  | tup (l : List AV)
  | ro (r : Ro)

abbrev AV.i (n : Int) : AV := .val (.int .i64 n)
abbrev AV.b (b : Bool) : AV := .val (.bool b)

structure Gh where
  v : Value
  b : Nat
  bl : List Nat
  rows : List Value

/-- An object that holds no handle: what is said of it, which stays as long as its blocks do. -/
structure Ob where
  p : Nat → World → Gh → Prop
  up : ∀ {base : Nat} {w w' : World} {g : Gh}, (∀ b, b ∈ g.bl → w'.heap[b]? = w.heap[b]?) → p base w g → p base w' g
  lower : ∀ {base base' : Nat} {w : World} {g : Gh}, base' ≤ base → p base w g → p base' w g
  one : ∀ {base : Nat} {w : World} {g : Gh}, p base w g → g.v.oneCell' = true ∧ g.v.cells = #[g.v]
/-- An object of one block: how its value is made of the block's number, and what it is. -/
def ob1 (val : Nat → Value) (p : Obj → Prop) (one : ∀ b, (val b).oneCell' = true ∧ (val b).cells = #[val b]) : Ob where
  p base w g := ∃ o, w.heap[g.b]? = some o ∧ p o ∧ base ≤ g.b ∧ g.bl = [g.b] ∧ g.v = val g.b
  up hb h := by
    obtain ⟨o, h1, h2, h3, h4, h5⟩ := h
    exact ⟨o, by rw [hb _ (by simp [h4])]; exact h1, h2, h3, h4, h5⟩
  lower hb h := by
    obtain ⟨o, h1, h2, h3, h4, h5⟩ := h
    exact ⟨o, h1, h2, Nat.le_trans hb h3, h4, h5⟩
  one h := by
    obtain ⟨o, _, _, _, _, h5⟩ := h
    rw [h5]; exact one _

/-- What memory held, and what the first handles were. -/
structure Kp where
  snap : Nat → Option Obj
  gs : List Gh

inductive AO where
  | dead
  | sli (e : TypeId) (xs : List Int)
  | slr (e : TypeId) (avs : List AV)
  | sls (e e2 : TypeId) (xss : List (List Int))
  | bx (T : TypeId) (avs : List AV)
  | ob (q : Ob)
  | keep (n : Nat) (K : Kp)

def eptr (v : Value) (i : Int) : Value :=
  match v with
  | .slice (some a) _ _ => .pointer (some (a.add i.toNat))
  | _ => undef

inductive RV (w : World) (ok : Nat → Prop) (gs : List Gh) : Value → AV → Prop
  | any (v : Value) : RV w ok gs v .any
  | val (v : Value) : RV w ok gs v (.val v)
  | ints {v : Value} {xs : List Int} : IntsAt w ok v xs → RV w ok gs v (.ints xs)
  | intss {v : Value} {xss : List (List Int)} : IntssAt w ok v xss → RV w ok gs v (.intss xss)
  | iptr {v : Value} {xs : List Int} {i : Int} : IntsAt w ok v xs → 0 ≤ i → i < xs.length → RV w ok gs (eptr v i) (.iptr xs i)
  | iiptr {v : Value} {xss : List (List Int)} {i : Int} : IntssAt w ok v xss → 0 ≤ i → i < xss.length → RV w ok gs (eptr v i) (.iiptr xss i)
  | own {h : Nat} {g : Gh} : gs[h]? = some g → RV w ok gs g.v (.own h)
  | optr {h i : Nat} {g : Gh} : gs[h]? = some g → RV w ok gs (.pointer (some ⟨g.b, i, none⟩)) (.optr h i)
  | osub {h off len cap : Nat} {p : Option Addr} {g : Gh} : gs[h]? = some g → (0 < len → p = some ⟨g.b, off, none⟩) → len ≤ cap → cap ≤ maxLen → RV w ok gs (.slice p len cap) (.osub h off len)
  | orow {h i : Nat} {g : Gh} {v : Value} : gs[h]? = some g → g.rows[i]? = some v → RV w ok gs v (.orow h i)
  | orptr {h i j blk n c : Nat} {g : Gh} : gs[h]? = some g → g.rows[i]? = some (.slice (some ⟨blk, 0, none⟩) n c) → RV w ok gs (.pointer (some ⟨blk, j, none⟩)) (.orptr h i j)
  | agg {vs : List Value} {l : List AV} : vs.length = l.length → (∀ v ∈ vs, v.oneCell' = true) → (∀ i : Nat, RV w ok gs (vs.getD i undef) (l.getD i .any)) → RV w ok gs (.agg vs.toArray) (.agg l)
  | tup {vs : List Value} {l : List AV} : vs.length = l.length → (∀ i : Nat, RV w ok gs (vs.getD i undef) (l.getD i .any)) → RV w ok gs (.tuple vs.toArray) (.tup l)
  | ro {v : Value} {r : Ro} : r.p w ok v → RV w ok gs v (.ro r)

theorem RV.mono {w w' : World} {ok ok' : Nat → Prop} {gs gs' : List Gh} (k : Keeps ok ok' w w') (hg : ∀ (h : Nat) g, gs[h]? = some g → gs'[h]? = some g)
    {v : Value} {a : AV} (h : RV w ok gs v a) : RV w' ok' gs' v a := by
  induction h with
  | any v => exact .any v
  | val v => exact .val v
  | ints h => exact .ints (h.mono k)
  | intss h => exact .intss (h.mono k)
  | @ro v r h => exact .ro (r.up k h)
  | iptr h h1 h2 => exact .iptr (h.mono k) h1 h2
  | iiptr h h1 h2 => exact .iiptr (h.mono k) h1 h2
  | own h => exact .own (hg _ _ h)
  | optr h => exact .optr (hg _ _ h)
  | osub h h1 h2 h3 => exact .osub (hg _ _ h) h1 h2 h3
  | orow h h1 => exact .orow (hg _ _ h) h1
  | orptr h h1 => exact .orptr (hg _ _ h) h1
  | agg h h1 _ ih => exact .agg h h1 ih
  | tup h _ ih => exact .tup h ih

/-- The value of handle 'h' turns: what names it by value is forgotten. -/
def AV.kill1 (h : Nat) : AV → AV
  | .own k => if k = h then .any else .own k
  | .optr k i => if k = h then .any else .optr k i
  | .osub k a b => if k = h then .any else .osub k a b
  | .agg _ => .any
  | .tup _ => .any
  | a => a
def AV.kill (h : Nat) : AV → AV
  | .own k => if k = h then .any else .own k
  | .optr k i => if k = h then .any else .optr k i
  | .osub k a b => if k = h then .any else .osub k a b
  | .agg l => .agg (l.map (AV.kill1 h))
  | .tup l => .tup (l.map (AV.kill1 h))
  | a => a

section kill
variable {w w' : World} {ok ok' : Nat → Prop} {gs gs' : List Gh} {h : Nat}

/-- Ghosts other than h stay; that of h may have a new value, its rows are still there. -/
structure Turned (h : Nat) (gs gs' : List Gh) : Prop where
  other : ∀ (k : Nat) g, k ≠ h → gs[k]? = some g → gs'[k]? = some g
  rows : ∀ g, gs[h]? = some g → ∃ g', gs'[h]? = some g' ∧ ∀ (i : Nat) v, g.rows[i]? = some v → g'.rows[i]? = some v

theorem RV.kill1 (k : Keeps ok ok' w w') (t : Turned h gs gs') {v : Value} {a : AV} (hv : RV w ok gs v a) : RV w' ok' gs' v (a.kill1 h) := by
  cases hv with
  | any v => exact .any v
  | val v => exact .val v
  | ints h => exact .ints (h.mono k)
  | intss h => exact .intss (h.mono k)
  | @ro v r h => exact .ro (r.up k h)
  | iptr h h1 h2 => exact .iptr (h.mono k) h1 h2
  | iiptr h h1 h2 => exact .iiptr (h.mono k) h1 h2
  | own h1 =>
    simp only [AV.kill1]; split
    · exact .any _
    · exact .own (t.other _ _ ‹_› h1)
  | optr h1 =>
    simp only [AV.kill1]; split
    · exact .any _
    · exact .optr (t.other _ _ ‹_› h1)
  | osub h1 h2 h3 h4 =>
    simp only [AV.kill1]; split
    · exact .any _
    · exact .osub (t.other _ _ ‹_› h1) h2 h3 h4
  | @orow k i g v h1 h2 =>
    by_cases e : k = h
    · subst e
      obtain ⟨g', hg', hr⟩ := t.rows _ h1
      exact .orow hg' (hr _ _ h2)
    · exact .orow (t.other _ _ e h1) h2
  | @orptr k i j blk n c g h1 h2 =>
    by_cases e : k = h
    · subst e
      obtain ⟨g', hg', hr⟩ := t.rows _ h1
      exact .orptr hg' (hr _ _ h2)
    · exact .orptr (t.other _ _ e h1) h2
  | agg _ _ _ => exact .any _
  | tup _ _ => exact .any _

theorem getD_map_kill1 (l : List AV) (i : Nat) : (l.map (AV.kill1 h)).getD i .any = (l.getD i .any).kill1 h := by
  simp only [List.getD_eq_getElem?_getD, List.getElem?_map]
  cases l[i]? <;> rfl

theorem RV.kill (k : Keeps ok ok' w w') (t : Turned h gs gs') {v : Value} {a : AV} (hv : RV w ok gs v a) : RV w' ok' gs' v (a.kill h) := by
  cases hv with
  | any v => exact .any v
  | val v => exact .val v
  | ints h => exact .ints (h.mono k)
  | intss h => exact .intss (h.mono k)
  | @ro v r h => exact .ro (r.up k h)
  | iptr h h1 h2 => exact .iptr (h.mono k) h1 h2
  | iiptr h h1 h2 => exact .iiptr (h.mono k) h1 h2
  | own h1 =>
    simp only [AV.kill]; split
    · exact .any _
    · exact .own (t.other _ _ ‹_› h1)
  | optr h1 =>
    simp only [AV.kill]; split
    · exact .any _
    · exact .optr (t.other _ _ ‹_› h1)
  | osub h1 h2 h3 h4 =>
    simp only [AV.kill]; split
    · exact .any _
    · exact .osub (t.other _ _ ‹_› h1) h2 h3 h4
  | @orow k i g v h1 h2 =>
    by_cases e : k = h
    · subst e
      obtain ⟨g', hg', hr⟩ := t.rows _ h1
      exact .orow hg' (hr _ _ h2)
    · exact .orow (t.other _ _ e h1) h2
  | @orptr k i j blk n c g h1 h2 =>
    by_cases e : k = h
    · subst e
      obtain ⟨g', hg', hr⟩ := t.rows _ h1
      exact .orptr hg' (hr _ _ h2)
    · exact .orptr (t.other _ _ e h1) h2
  | agg h1 h3 h2 => exact .agg (by simpa using h1) h3 fun i => by rw [getD_map_kill1]; exact (h2 i).kill1 k t
  | tup h1 h2 => exact .tup (by simpa using h1) fun i => by rw [getD_map_kill1]; exact (h2 i).kill1 k t
end kill

/-! ### The slots: what was written last stands first -/
structure Env where
  n : Nat
  m : List (Nat × AV)
def fdm : List (Nat × AV) → Nat → Option AV
  | [], _ => none
  | (d, r) :: t, k => cond (Nat.beq d k) (some r) (fdm t k)
def Env.fd (e : Env) (k : Nat) : Option AV := cond (Nat.blt k e.n) (fdm e.m k) none
def Env.lk (e : Env) (k : Nat) : AV := (e.fd k).getD .any
def Env.up (e : Env) (d : Nat) (r : AV) : Env := ⟨e.n, (d, r) :: e.m⟩
def Env.mp (f : AV → AV) (e : Env) : Env := ⟨e.n, e.m.map fun p => (p.1, f p.2)⟩

theorem Env.lk_of {e : Env} {k : Nat} {a : AV} (h : e.fd k = some a) : e.lk k = a := by simp [Env.lk, h]
theorem Env.lk_up (e : Env) (d : Nat) (r : AV) (i : Nat) : (e.up d r).lk i = if i = d ∧ d < e.n then r else e.lk i := by
  simp only [Env.lk, Env.fd, Env.up, fdm]
  by_cases h : i = d
  · subst h
    have : Nat.beq i i = true := Nat.beq_refl i
    by_cases h2 : i < e.n
    · have h3 : Nat.blt i e.n = true := by rw [Nat.blt_eq]; exact h2
      simp [h2, h3]
    · have h3 : Nat.blt i e.n = false := by rw [Bool.eq_false_iff]; intro h4; rw [Nat.blt_eq] at h4; exact h2 h4
      simp [h2, h3]
  · have : Nat.beq d i = false := by rw [Bool.eq_false_iff]; intro h4; exact h (Nat.eq_of_beq_eq_true h4).symm
    simp [h, this]
theorem fdm_mp (f : AV → AV) (m : List (Nat × AV)) (k : Nat) : fdm (m.map fun p => (p.1, f p.2)) k = (fdm m k).map f := by
  induction m with
  | nil => rfl
  | cons p t ih =>
    obtain ⟨d, r⟩ := p
    simp only [List.map_cons, fdm, ih]
    cases Nat.beq d k <;> rfl
theorem Env.lk_mp (f : AV → AV) (hf : f .any = .any) (e : Env) (k : Nat) : (e.mp f).lk k = f (e.lk k) := by
  simp only [Env.lk, Env.fd, Env.mp, fdm_mp]
  cases Nat.blt k e.n
  · simp [hf]
  · cases fdm e.m k <;> simp [hf]

/-! ### Objects and the whole relation -/

/-- The blocks of a slice's ghost. -/
def GB (g : Gh) : Prop := (g.v.ownBlock = none ∧ g.bl = []) ∨ (g.v.ownBlock = some g.b ∧ g.bl = [g.b])

def RO (base : Nat) (w : World) (ok : Nat → Prop) (gs : List Gh) (g : Gh) : AO → Prop
  | .dead => True
  | .sli e xs => w.ownsRow base e 1 g.v xs.length (xs.map (Value.int .i64)) ∧ (∀ x ∈ xs, inI x) ∧ GB g
  | .slr e avs => ∃ vs : List Value, w.ownsRow base e 1 g.v vs.length vs ∧ vs.length = avs.length ∧ (∀ i : Nat, RV w ok gs (vs.getD i undef) (avs.getD i .any)) ∧ GB g
  | .sls e e2 xss => ∃ (vs : List Value) (bs : List (List Nat)) (mb : List Nat), w.ownsRow base e 1 g.v vs.length vs ∧ vs.length = xss.length ∧ bs.length = xss.length ∧ g.rows = vs ∧
      (∀ (i : Nat) u, vs[i]? = some u → w.ownsRow base e2 1 u (xss.getD i []).length ((xss.getD i []).map (Value.int .i64)) ∧ (∀ x ∈ xss.getD i [], inI x) ∧ u.ownBlock.toList = bs.getD i []) ∧
      ((g.v.ownBlock = none ∧ mb = []) ∨ (g.v.ownBlock = some g.b ∧ mb = [g.b])) ∧ g.bl = mb ++ bs.flatten ∧ g.bl.Nodup
  | .bx T avs => ∃ cs : List Value, w.heap[g.b]? = some (.cells cs.toArray T (0, 0)) ∧ base ≤ g.b ∧ g.bl = [g.b] ∧ g.v = .pointer (some ⟨g.b, 0, none⟩) ∧ cs.length = avs.length ∧
      (∀ c ∈ cs, c.oneCell' = true) ∧ ∀ i : Nat, RV w ok gs (cs.getD i undef) (avs.getD i .any)
  | .ob q => q.p base w g
  | .keep n K => (∀ b, b ∈ g.bl → w.heap[b]? = K.snap b) ∧ K.gs.length = n ∧ ∀ (i : Nat) x, K.gs[i]? = some x → gs[i]? = some x

/-- An object that may be written to. -/
def AO.live : AO → Prop
  | .dead => False
  | .keep _ _ => False
  | _ => True
theorem AO.live.ne {o : AO} (h : o.live) : o ≠ .dead := by cases o <;> simp_all [AO.live]

/-- The blocks that no live handle owns. -/
def okOf (gs : List Gh) (os : List AO) (b : Nat) : Prop := ∀ (h : Nat) g o, gs[h]? = some g → os[h]? = some o → o.live → b ∉ g.bl

structure Rel (base : Nat) (w : World) (gs : List Gh) (env : Env) (os : List AO) (tm : Array Value) : Prop where
  hb : base ≤ w.heap.size
  hl : gs.length = os.length
  hs : env.n ≤ tm.size
  he : ∀ i : Nat, RV w (okOf gs os) gs (tm.getD i undef) (env.lk i)
  ho : ∀ (h : Nat) g o, gs[h]? = some g → os[h]? = some o → RO base w (okOf gs os) gs g o
  hd : ∀ (h k : Nat) g g' o o', h ≠ k → gs[h]? = some g → gs[k]? = some g' → os[h]? = some o → os[k]? = some o' → o ≠ .dead → o' ≠ .dead → ∀ b, b ∈ g.bl → b ∉ g'.bl
  hn : ∀ (h : Nat) g o, gs[h]? = some g → os[h]? = some o → o ≠ .dead → ∀ b, b ∈ g.bl → base ≤ b ∧ b < w.heap.size

end Go.Proofs.Ytcolpjpppdmanaa
/-
  The relation between a world and an abstract state, and how it is handed on: a new object, a store, a value that turns, what is forgotten. No condition.
-/
namespace Go.Proofs.Ytcolpjpppdmanaa
open Go Go.RowKit

theorem getD_set (l : List AV) (d : Nat) (r : AV) (i : Nat) : (l.set d r).getD i .any = if i = d ∧ d < l.length then r else l.getD i .any := by
  simp only [List.getD_eq_getElem?_getD, List.getElem?_set]
  by_cases h : d = i
  · subst h
    by_cases h2 : d < l.length
    · simp [h2]
    · simp [h2]
  · have h' : ¬ i = d := fun e => h e.symm
    simp [h, h']

theorem getD_setIfInBounds (tm : Array Value) (d : Nat) (v : Value) (i : Nat) : (tm.setIfInBounds d v).getD i undef = if i = d ∧ d < tm.size then v else tm.getD i undef := by
  simp only [Array.getD_eq_getD_getElem?, Array.getElem?_setIfInBounds]
  by_cases h : d = i
  · subst h
    by_cases h2 : d < tm.size
    · simp [h2]
    · simp [h2]
  · have h' : ¬ i = d := fun e => h e.symm
    simp [h, h']

theorem ownsRow_of_block {w w' : World} {base : Nat} {e : TypeId} {size : Nat} {v : Value} {n : Nat} {xs : List Value} (h : w.ownsRow base e size v n xs)
    (hb : ∀ k, v.ownBlock = some k → w'.heap[k]? = w.heap[k]?) : w'.ownsRow base e size v n xs := by
  obtain ⟨h1, h2⟩ := h
  refine ⟨h1, ?_⟩
  rcases h2 with h2 | ⟨g, cap, cur, hv, hb1, hh, r⟩
  · exact .inl h2
  · exact .inr ⟨g, cap, cur, hv, hb1, by rw [hb g (by rw [hv]; rfl)]; exact hh, r⟩

theorem GB.mem {g : Gh} (h : GB g) {k : Nat} (hk : g.v.ownBlock = some k) : k ∈ g.bl := by
  rcases h with ⟨h1, _⟩ | ⟨h1, h2⟩
  · rw [h1] at hk; cases hk
  · rw [h1] at hk; cases hk; rw [h2]; simp

theorem RO.mono {base : Nat} {w w' : World} {ok ok' : Nat → Prop} {gs gs' : List Gh} {g : Gh} {o : AO} (k : Keeps ok ok' w w')
    (hg : ∀ (h : Nat) g, gs[h]? = some g → gs'[h]? = some g) (hbl : o ≠ .dead → ∀ b, b ∈ g.bl → w'.heap[b]? = w.heap[b]?) (h : RO base w ok gs g o) : RO base w' ok' gs' g o := by
  cases o with
  | dead => trivial
  | sli e xs =>
    obtain ⟨h1, h2, h3⟩ := h
    exact ⟨ownsRow_of_block h1 fun b hb => hbl (by simp) b (h3.mem hb), h2, h3⟩
  | slr e avs =>
    obtain ⟨vs, h1, h2, h3, h4⟩ := h
    exact ⟨vs, ownsRow_of_block h1 fun b hb => hbl (by simp) b (h4.mem hb), h2, fun i => (h3 i).mono k hg, h4⟩
  | sls e e2 xss =>
    obtain ⟨vs, bs, mb, h1, h2, h3, h4, h5, h6, h7, h8⟩ := h
    refine ⟨vs, bs, mb, ownsRow_of_block h1 fun b hb => hbl (by simp) b ?_, h2, h3, h4, fun i u hu => ?_, h6, h7, h8⟩
    · rw [h7]
      rcases h6 with ⟨h6, _⟩ | ⟨h6, h6'⟩
      · rw [h6] at hb; cases hb
      · rw [h6] at hb; cases hb; simp [h6']
    · obtain ⟨r1, r2, r3⟩ := h5 i u hu
      refine ⟨ownsRow_of_block r1 fun b hb => hbl (by simp) b ?_, r2, r3⟩
      rw [h7]
      refine List.mem_append.2 (.inr (List.mem_flatten.2 ⟨bs.getD i [], ?_, by rw [← r3, hb]; simp⟩))
      have hi : i < bs.length := by
        have := (List.getElem?_eq_some_iff.1 hu).1
        omega
      rw [List.getD_eq_getElem?_getD, List.getElem?_eq_getElem hi]
      simp
  | bx T avs =>
    obtain ⟨cs, h1, h2, h3, h4, h5, h6, h7⟩ := h
    exact ⟨cs, by rw [hbl (by simp) g.b (by simp [h3])]; exact h1, h2, h3, h4, h5, h6, fun i => (h7 i).mono k hg⟩
  | ob q => exact q.up (fun b hb => hbl (by simp) b hb) h
  | keep n K =>
    obtain ⟨h1, h2, h3⟩ := h
    exact ⟨fun b hb => by rw [hbl (by simp) b hb]; exact h1 b hb, h2, fun i x hx => hg i x (h3 i x hx)⟩

section
variable {base : Nat} {w w' : World} {gs : List Gh} {env : Env} {os : List AO} {tm : Array Value}

theorem Rel.below (h : Rel base w gs env os tm) (b : Below w.heap.size w w') : Rel base w' gs env os tm where
  hb := Nat.le_trans h.hb b.size
  hl := h.hl
  hs := h.hs
  he i := (h.he i).mono (Keeps.below b) (fun _ _ e => e)
  ho k g o hg ho := (h.ho k g o hg ho).mono (Keeps.below b) (fun _ _ e => e) fun hnd c hc => b.block c (h.hn k g o hg ho hnd c hc).2
  hd := h.hd
  hn k g o hg ho hnd c hc := ⟨(h.hn k g o hg ho hnd c hc).1, Nat.lt_of_lt_of_le (h.hn k g o hg ho hnd c hc).2 b.size⟩

theorem Rel.put (h : Rel base w gs env os tm) {v : Value} {r : AV} (hv : RV w (okOf gs os) gs v r) (d : Nat) : Rel base w gs (env.up d r) os (tm.setIfInBounds d v) where
  hb := h.hb
  hl := h.hl
  hs := by simpa [Env.up] using h.hs
  he i := by
    rw [Env.lk_up, getD_setIfInBounds]
    by_cases h1 : i = d
    · subst h1
      by_cases h2 : i < env.n
      · have h3 : i < tm.size := Nat.lt_of_lt_of_le h2 h.hs
        simpa [h2, h3] using hv
      · have h4 : env.lk i = .any := by
          have h3 : Nat.blt i env.n = false := by rw [Bool.eq_false_iff]; intro h4; rw [Nat.blt_eq] at h4; exact h2 h4
          simp [Env.lk, Env.fd, h3]
        simp only [h2, and_false, if_false, h4]
        exact .any _
    · simpa [h1] using h.he i
  ho := h.ho
  hd := h.hd
  hn := h.hn

theorem append_one {α : Type} {l : List α} {x y : α} {k : Nat} (h : (l ++ [x])[k]? = some y) : (k < l.length ∧ l[k]? = some y) ∨ (k = l.length ∧ y = x) := by
  rw [List.getElem?_append] at h
  split at h
  · exact .inl ⟨‹_›, h⟩
  · rename_i hk
    have : k - l.length = 0 := by
      rcases Nat.lt_or_ge 0 (k - l.length) with h0 | h0
      · rw [List.getElem?_eq_none (by simp; omega)] at h; cases h
      · omega
    rw [this] at h
    simp at h
    exact .inr ⟨by omega, h.symm⟩

theorem keeps_new {g : Gh} {o : AO} (hl : gs.length = os.length) (hbel : Below w.heap.size w w') (hno : o ≠ .dead → ∀ b, b ∈ g.bl → w.heap.size ≤ b ∧ b < w'.heap.size) :
    Keeps (okOf gs os) (okOf (gs ++ [g]) (os ++ [o])) w w' := by
  intro b hb hlt
  refine ⟨?_, hbel.block b hlt⟩
  intro k g' o' hg' ho' hnd hmem
  rcases append_one hg' with ⟨h1, h2⟩ | ⟨h1, rfl⟩
  · rcases append_one ho' with ⟨h3, h4⟩ | ⟨h3, rfl⟩
    · exact hb k g' o' h2 h4 hnd hmem
    · omega
  · rcases append_one ho' with ⟨h3, h4⟩ | ⟨h3, rfl⟩
    · omega
    · have := (hno hnd.ne b hmem).1; omega

/-- A new object stands behind a new handle. -/
theorem Rel.new (h : Rel base w gs env os tm) (hbel : Below w.heap.size w w') (o : AO) (g : Gh) (hno : o ≠ .dead → ∀ b, b ∈ g.bl → w.heap.size ≤ b ∧ b < w'.heap.size)
    (hro : RO base w' (okOf (gs ++ [g]) (os ++ [o])) (gs ++ [g]) g o) : Rel base w' (gs ++ [g]) env (os ++ [o]) tm := by
  have k := keeps_new (o := o) h.hl hbel hno
  have hgs : ∀ (i : Nat) g', gs[i]? = some g' → (gs ++ [g])[i]? = some g' := fun i g' e => by
    rw [List.getElem?_append_left (List.getElem?_eq_some_iff.1 e).1]; exact e
  refine ⟨Nat.le_trans h.hb hbel.size, by simp [h.hl], h.hs, fun i => (h.he i).mono k hgs, ?_, ?_, ?_⟩
  · intro i g' o' hg' ho'
    rcases append_one hg' with ⟨h1, h2⟩ | ⟨h1, rfl⟩
    · rcases append_one ho' with ⟨h3, h4⟩ | ⟨h3, rfl⟩
      · exact (h.ho i g' o' h2 h4).mono k hgs fun hnd c hc => hbel.block c (h.hn i g' o' h2 h4 hnd c hc).2
      · have := h.hl; omega
    · rcases append_one ho' with ⟨h3, h4⟩ | ⟨h3, rfl⟩
      · have := h.hl; omega
      · exact hro
  · intro i j g1 g2 o1 o2 hij hg1 hg2 ho1 ho2 hn1 hn2 b hb1 hb2
    have hl := h.hl
    rcases append_one hg1 with ⟨a1, a2⟩ | ⟨a1, rfl⟩
    · rcases append_one ho1 with ⟨a3, a4⟩ | ⟨a3, rfl⟩
      · rcases append_one hg2 with ⟨b1, b2⟩ | ⟨b1, rfl⟩
        · rcases append_one ho2 with ⟨b3, b4⟩ | ⟨b3, rfl⟩
          · exact h.hd i j g1 g2 o1 o2 hij a2 b2 a4 b4 hn1 hn2 b hb1 hb2
          · omega
        · rcases append_one ho2 with ⟨b3, b4⟩ | ⟨b3, rfl⟩
          · omega
          · have := (hno hn2 b hb2).1
            have := (h.hn i g1 o1 a2 a4 hn1 b hb1).2
            omega
      · omega
    · rcases append_one ho1 with ⟨a3, a4⟩ | ⟨a3, rfl⟩
      · omega
      · rcases append_one hg2 with ⟨b1, b2⟩ | ⟨b1, rfl⟩
        · rcases append_one ho2 with ⟨b3, b4⟩ | ⟨b3, rfl⟩
          · have := (hno hn1 b hb1).1
            have := (h.hn j g2 o2 b2 b4 hn2 b hb2).2
            omega
          · omega
        · omega
  · intro i g' o' hg' ho' hnd b hb
    have hl := h.hl
    rcases append_one hg' with ⟨h1, h2⟩ | ⟨h1, rfl⟩
    · rcases append_one ho' with ⟨h3, h4⟩ | ⟨h3, rfl⟩
      · have := h.hn i g' o' h2 h4 hnd b hb
        exact ⟨this.1, Nat.lt_of_lt_of_le this.2 hbel.size⟩
      · omega
    · rcases append_one ho' with ⟨h3, h4⟩ | ⟨h3, rfl⟩
      · omega
      · have := hno hnd b hb
        exact ⟨Nat.le_trans h.hb this.1, this.2⟩

def AO.kill (h : Nat) : AO → AO
  | .bx T avs => .bx T (avs.map (AV.kill h))
  | .slr e avs => .slr e (avs.map (AV.kill h))
  | .keep n K => if h < n then .keep 0 ⟨K.snap, []⟩ else .keep n K
  | o => o

theorem AO.kill_dead {h : Nat} {o : AO} : o.kill h = .dead ↔ o = .dead := by cases o <;> simp [AO.kill]; split <;> simp
theorem AO.kill_live {h : Nat} {o : AO} : (o.kill h).live ↔ o.live := by
  cases o with
  | keep n K => simp only [AO.kill]; split <;> exact Iff.rfl
  | _ => exact Iff.rfl

theorem getD_map_kill (h : Nat) (l : List AV) (i : Nat) : (l.map (AV.kill h)).getD i .any = (l.getD i .any).kill h := by
  simp only [List.getD_eq_getElem?_getD, List.getElem?_map]
  cases l[i]? <;> rfl

/-- Object 'k' turns: its value may be another one, its blocks may be new. -/
theorem Rel.turn (h : Rel base w gs env os tm) {k : Nat} {g : Gh} {o : AO} (hg : gs[k]? = some g) (ho : os[k]? = some o) (hlv : o.live) (g' : Gh) (o' : AO)
    (hw : ∀ b, b < w.heap.size → b ∉ g.bl → w'.heap[b]? = w.heap[b]?) (hsz : w.heap.size ≤ w'.heap.size)
    (hbl : ∀ b, b ∈ g'.bl → (b ∈ g.bl ∨ w.heap.size ≤ b) ∧ b < w'.heap.size) (hrows : ∀ (i : Nat) v, g.rows[i]? = some v → g'.rows[i]? = some v)
    (hro : Keeps (okOf gs os) (okOf (gs.set k g') ((os.map (AO.kill k)).set k o')) w w' → Turned k gs (gs.set k g') →
      RO base w' (okOf (gs.set k g') ((os.map (AO.kill k)).set k o')) (gs.set k g') g' o') :
    Rel base w' (gs.set k g') (env.mp (AV.kill k)) ((os.map (AO.kill k)).set k o') tm := by
  have hnd := hlv.ne
  have hkg : k < gs.length := (List.getElem?_eq_some_iff.1 hg).1
  have hko : k < os.length := (List.getElem?_eq_some_iff.1 ho).1
  have gset : ∀ {i : Nat} {x : Gh}, (gs.set k g')[i]? = some x → (i = k ∧ x = g') ∨ (i ≠ k ∧ gs[i]? = some x) := by
    intro i x e
    rw [List.getElem?_set] at e
    split at e
    · subst_vars; simp at e; exact .inl ⟨rfl, e.symm⟩
    · exact .inr ⟨fun e' => by simp_all, e⟩
  have oset : ∀ {i : Nat} {x : AO}, ((os.map (AO.kill k)).set k o')[i]? = some x → (i = k ∧ x = o') ∨ (i ≠ k ∧ ∃ y, os[i]? = some y ∧ x = y.kill k) := by
    intro i x e
    rw [List.getElem?_set] at e
    split at e
    · subst_vars; simp [hko] at e; exact .inl ⟨rfl, e.symm⟩
    · refine .inr ⟨fun e' => by simp_all, ?_⟩
      rw [List.getElem?_map] at e
      cases hy : os[i]? with
      | none => simp [hy] at e
      | some y => simp [hy] at e; exact ⟨y, rfl, e.symm⟩
  have kp : Keeps (okOf gs os) (okOf (gs.set k g') ((os.map (AO.kill k)).set k o')) w w' := by
    intro b hb hlt
    refine ⟨?_, hw b hlt (hb k g o hg ho hlv)⟩
    intro i x y hx hy hny hmem
    rcases gset hx with ⟨rfl, rfl⟩ | ⟨hi, hx'⟩
    · rcases (hbl b hmem).1 with h1 | h1
      · exact hb i g o hg ho hlv h1
      · omega
    · rcases oset hy with ⟨rfl, rfl⟩ | ⟨_, z, hz, rfl⟩
      · exact hi rfl
      · exact hb i x z hx' hz (AO.kill_live.1 hny) hmem
  have tn : Turned k gs (gs.set k g') := by
    refine ⟨fun i x hi hx => ?_, fun x hx => ⟨g', by simp [hkg], fun i v hv => ?_⟩⟩
    · rw [List.getElem?_set, if_neg (fun e => hi e.symm)]; exact hx
    · rw [hg] at hx; cases hx; exact hrows i v hv
  refine ⟨Nat.le_trans h.hb hsz, by simp [h.hl], h.hs, fun i => by rw [Env.lk_mp _ rfl]; exact (h.he i).kill kp tn, ?_, ?_, ?_⟩
  · intro i x y hx hy
    rcases gset hx with ⟨rfl, rfl⟩ | ⟨hi, hx'⟩
    · rcases oset hy with ⟨_, rfl⟩ | ⟨hi, _⟩
      · exact hro kp tn
      · exact absurd rfl hi
    · rcases oset hy with ⟨rfl, rfl⟩ | ⟨_, z, hz, rfl⟩
      · exact absurd rfl hi
      · have hz' := h.ho i x z hx' hz
        have same : z ≠ .dead → ∀ b, b ∈ x.bl → w'.heap[b]? = w.heap[b]? := fun hn b hb =>
          hw b (h.hn i x z hx' hz hn b hb).2 (h.hd i k x g z o hi hx' hg hz ho hn hnd b hb)
        cases z with
        | ob q => exact q.up (fun b hb => same (by simp) b hb) hz'
        | bx T avs =>
          obtain ⟨cs, h1, h2, h3, h4, h5, h6, h7⟩ := hz'
          exact ⟨cs, by rw [same (by simp) x.b (by simp [h3])]; exact h1, h2, h3, h4, by simpa using h5, h6, fun j => by rw [getD_map_kill]; exact (h7 j).kill kp tn⟩
        | keep n K =>
          obtain ⟨h1, h2, h3⟩ := hz'
          have hs : ∀ b, b ∈ x.bl → w'.heap[b]? = K.snap b := fun b hb => by rw [same (by simp) b hb]; exact h1 b hb
          simp only [AO.kill]
          split
          · exact ⟨hs, rfl, fun i x hx => by simp at hx⟩
          · refine ⟨hs, h2, fun i y hy => tn.other i y (fun e => ?_) (h3 i y hy)⟩
            have := (List.getElem?_eq_some_iff.1 hy).1
            omega
        | dead => trivial
        | sli e xs =>
          obtain ⟨h1, h2, h3⟩ := hz'
          exact ⟨ownsRow_of_block h1 fun b hb => same (by simp) b (h3.mem hb), h2, h3⟩
        | slr e avs =>
          obtain ⟨vs, h1, h2, h3, h4⟩ := hz'
          exact ⟨vs, ownsRow_of_block h1 fun b hb => same (by simp) b (h4.mem hb), by simpa using h2, fun j => by rw [getD_map_kill]; exact (h3 j).kill kp tn, h4⟩
        | sls e e2 xss =>
          obtain ⟨vs, bs, mb, h1, h2, h3, h4, h5, h6, h7, h8⟩ := hz'
          refine ⟨vs, bs, mb, ownsRow_of_block h1 fun b hb => same (by simp) b ?_, h2, h3, h4, fun i u hu => ?_, h6, h7, h8⟩
          · rw [h7]
            rcases h6 with ⟨h6, _⟩ | ⟨h6, h6'⟩
            · rw [h6] at hb; cases hb
            · rw [h6] at hb; cases hb; simp [h6']
          · obtain ⟨r1, r2, r3⟩ := h5 i u hu
            refine ⟨ownsRow_of_block r1 fun b hb => same (by simp) b ?_, r2, r3⟩
            rw [h7]
            refine List.mem_append.2 (.inr (List.mem_flatten.2 ⟨bs.getD i [], ?_, by rw [← r3, hb]; simp⟩))
            have hi : i < bs.length := by
              have := (List.getElem?_eq_some_iff.1 hu).1
              omega
            rw [List.getD_eq_getElem?_getD, List.getElem?_eq_getElem hi]
            simp
  · intro i j g1 g2 o1 o2 hij hg1 hg2 ho1 ho2 hn1 hn2 b hb1 hb2
    rcases gset hg1 with ⟨rfl, rfl⟩ | ⟨hi, hg1'⟩
    · rcases gset hg2 with ⟨rfl, _⟩ | ⟨hj, hg2'⟩
      · exact hij rfl
      · rcases oset ho2 with ⟨rfl, _⟩ | ⟨_, z, hz, rfl⟩
        · exact hij rfl
        · have hzn : z ≠ .dead := fun e => hn2 (AO.kill_dead.2 e)
          rcases (hbl b hb1).1 with h1 | h1
          · exact h.hd i j g g2 o z hij hg hg2' ho hz hnd hzn b h1 hb2
          · have := (h.hn j g2 z hg2' hz hzn b hb2).2; omega
    · rcases oset ho1 with ⟨rfl, _⟩ | ⟨_, z, hz, rfl⟩
      · exact absurd rfl hi
      · have hzn : z ≠ .dead := fun e => hn1 (AO.kill_dead.2 e)
        rcases gset hg2 with ⟨rfl, rfl⟩ | ⟨hj, hg2'⟩
        · rcases (hbl b hb2).1 with h1 | h1
          · exact h.hd i j g1 g z o hij hg1' hg hz ho hzn hnd b hb1 h1
          · have := (h.hn i g1 z hg1' hz hzn b hb1).2; omega
        · rcases oset ho2 with ⟨rfl, _⟩ | ⟨_, y, hy, rfl⟩
          · exact absurd rfl hj
          · exact h.hd i j g1 g2 z y hij hg1' hg2' hz hy hzn (fun e => hn2 (AO.kill_dead.2 e)) b hb1 hb2
  · intro i x y hx hy hny b hb
    rcases gset hx with ⟨rfl, rfl⟩ | ⟨hi, hx'⟩
    · have := hbl b hb
      refine ⟨?_, this.2⟩
      rcases this.1 with h1 | h1
      · exact (h.hn i g o hg ho hnd b h1).1
      · exact Nat.le_trans h.hb h1
    · rcases oset hy with ⟨rfl, rfl⟩ | ⟨_, z, hz, rfl⟩
      · exact absurd rfl hi
      · have := h.hn i x z hx' hz (fun e => hny (AO.kill_dead.2 e)) b hb
        exact ⟨this.1, Nat.lt_of_lt_of_le this.2 hsz⟩

/-- Object 'k' is written to: its value stays, its blocks too. -/
theorem Rel.upd (h : Rel base w gs env os tm) {k : Nat} {g : Gh} {o : AO} (hg : gs[k]? = some g) (ho : os[k]? = some o) (hlv : o.live) (o' : AO) (hlv' : o'.live)
    (hw : ∀ b, b < w.heap.size → b ∉ g.bl → w'.heap[b]? = w.heap[b]?) (hsz : w.heap.size ≤ w'.heap.size)
    (hro : Keeps (okOf gs os) (okOf gs os) w w' → RO base w' (okOf gs os) gs g o') : Rel base w' gs env (os.set k o') tm := by
  have hnd := hlv.ne
  have hko : k < os.length := (List.getElem?_eq_some_iff.1 ho).1
  have oset : ∀ {i : Nat} {x : AO}, (os.set k o')[i]? = some x → (i = k ∧ x = o') ∨ (i ≠ k ∧ os[i]? = some x) := by
    intro i x e
    rw [List.getElem?_set] at e
    split at e
    · subst_vars; simp at e; exact .inl ⟨rfl, e.symm⟩
    · exact .inr ⟨fun e' => by simp_all, e⟩
  have eok : okOf gs (os.set k o') = okOf gs os := by
    funext b
    apply propext
    constructor
    · intro hb i x y hx hy hny
      by_cases hi : i = k
      · subst hi
        exact hb i x o' hx (by simp [hko]) hlv'
      · exact hb i x y hx (by rw [List.getElem?_set, if_neg (fun e => hi e.symm)]; exact hy) hny
    · intro hb i x y hx hy hny
      rcases oset hy with ⟨rfl, rfl⟩ | ⟨_, hy'⟩
      · rw [hg] at hx; cases hx
        exact hb i g o hg ho hlv
      · exact hb i x y hx hy' hny
  have kp : Keeps (okOf gs os) (okOf gs os) w w' := fun b hb hlt => ⟨hb, hw b hlt (hb k g o hg ho hlv)⟩
  refine ⟨Nat.le_trans h.hb hsz, by simp [h.hl], h.hs, fun i => by rw [eok]; exact (h.he i).mono kp (fun _ _ e => e), ?_, ?_, ?_⟩
  · intro i x y hx hy
    rw [eok]
    rcases oset hy with ⟨rfl, rfl⟩ | ⟨hi, hy'⟩
    · rw [hg] at hx; cases hx; exact hro kp
    · exact (h.ho i x y hx hy').mono kp (fun _ _ e => e) fun hn b hb => hw b (h.hn i x y hx hy' hn b hb).2 (h.hd i k x g y o hi hx hg hy' ho hn hnd b hb)
  · intro i j g1 g2 o1 o2 hij hg1 hg2 ho1 ho2 hn1 hn2
    have f : ∀ {i : Nat} {x : AO}, (os.set k o')[i]? = some x → x ≠ .dead → ∃ y, os[i]? = some y ∧ y ≠ .dead := by
      intro i x e hx
      rcases oset e with ⟨rfl, rfl⟩ | ⟨_, e'⟩
      · exact ⟨o, ho, hnd⟩
      · exact ⟨x, e', hx⟩
    obtain ⟨y1, hy1, hy1n⟩ := f ho1 hn1
    obtain ⟨y2, hy2, hy2n⟩ := f ho2 hn2
    exact h.hd i j g1 g2 y1 y2 hij hg1 hg2 hy1 hy2 hy1n hy2n
  · intro i x y hx hy hny b hb
    have : ∃ y, os[i]? = some y ∧ y ≠ .dead := by
      rcases oset hy with ⟨rfl, rfl⟩ | ⟨_, e'⟩
      · exact ⟨o, ho, hnd⟩
      · exact ⟨y, e', hny⟩
    obtain ⟨z, hz, hzn⟩ := this
    have := h.hn i x z hx hz hzn b hb
    exact ⟨this.1, Nat.lt_of_lt_of_le this.2 hsz⟩
end

/-! ### What is forgotten -/

/-- References to handles from 'n' on are forgotten. -/
def AV.lim1 (n : Nat) : AV → AV
  | .own k => if k < n then .own k else .any
  | .optr k i => if k < n then .optr k i else .any
  | .osub k a b => if k < n then .osub k a b else .any
  | .orow k i => if k < n then .orow k i else .any
  | .orptr k i j => if k < n then .orptr k i j else .any
  | .agg _ => .any
  | .tup _ => .any
  | a => a
def AV.lim (n : Nat) : AV → AV
  | .own k => if k < n then .own k else .any
  | .optr k i => if k < n then .optr k i else .any
  | .osub k a b => if k < n then .osub k a b else .any
  | .orow k i => if k < n then .orow k i else .any
  | .orptr k i j => if k < n then .orptr k i j else .any
  | .agg l => .agg (l.map (AV.lim1 n))
  | .tup l => .tup (l.map (AV.lim1 n))
  | a => a
def AO.lim (n : Nat) : AO → AO
  | .bx T avs => .bx T (avs.map (AV.lim n))
  | .slr e avs => .slr e (avs.map (AV.lim n))
  | .keep m K => if m ≤ n then .keep m K else .keep 0 ⟨K.snap, []⟩
  | o => o

theorem getD_map_lim1 (n : Nat) (l : List AV) (i : Nat) : (l.map (AV.lim1 n)).getD i .any = (l.getD i .any).lim1 n := by
  simp only [List.getD_eq_getElem?_getD, List.getElem?_map]
  cases l[i]? <;> rfl
theorem getD_map_lim (n : Nat) (l : List AV) (i : Nat) : (l.map (AV.lim n)).getD i .any = (l.getD i .any).lim n := by
  simp only [List.getD_eq_getElem?_getD, List.getElem?_map]
  cases l[i]? <;> rfl

section
variable {w : World} {ok ok' : Nat → Prop} {gs : List Gh}
theorem getElem?_take_lt {α : Type} {l : List α} {n k : Nat} {x : α} (h : l[k]? = some x) (hk : k < n) : (l.take n)[k]? = some x := by
  rw [List.getElem?_take, if_pos hk]; exact h

theorem RV.lim1 (n : Nat) (k : Keeps ok ok' w w) {v : Value} {a : AV} (hv : RV w ok gs v a) : RV w ok' (gs.take n) v (a.lim1 n) := by
  cases hv with
  | any v => exact .any v
  | val v => exact .val v
  | ints h => exact .ints (h.mono k)
  | intss h => exact .intss (h.mono k)
  | @ro v r h => exact .ro (r.up k h)
  | iptr h h1 h2 => exact .iptr (h.mono k) h1 h2
  | iiptr h h1 h2 => exact .iiptr (h.mono k) h1 h2
  | own h1 => simp only [AV.lim1]; split <;> first | exact .any _ | exact .own (getElem?_take_lt h1 ‹_›)
  | optr h1 => simp only [AV.lim1]; split <;> first | exact .any _ | exact .optr (getElem?_take_lt h1 ‹_›)
  | osub h1 h2 h3 h4 => simp only [AV.lim1]; split <;> first | exact .any _ | exact .osub (getElem?_take_lt h1 ‹_›) h2 h3 h4
  | orow h1 h2 => simp only [AV.lim1]; split <;> first | exact .any _ | exact .orow (getElem?_take_lt h1 ‹_›) h2
  | orptr h1 h2 => simp only [AV.lim1]; split <;> first | exact .any _ | exact .orptr (getElem?_take_lt h1 ‹_›) h2
  | agg _ _ _ => exact .any _
  | tup _ _ => exact .any _

theorem RV.lim (n : Nat) (k : Keeps ok ok' w w) {v : Value} {a : AV} (hv : RV w ok gs v a) : RV w ok' (gs.take n) v (a.lim n) := by
  cases hv with
  | any v => exact .any v
  | val v => exact .val v
  | ints h => exact .ints (h.mono k)
  | intss h => exact .intss (h.mono k)
  | @ro v r h => exact .ro (r.up k h)
  | iptr h h1 h2 => exact .iptr (h.mono k) h1 h2
  | iiptr h h1 h2 => exact .iiptr (h.mono k) h1 h2
  | own h1 => simp only [AV.lim]; split <;> first | exact .any _ | exact .own (getElem?_take_lt h1 ‹_›)
  | optr h1 => simp only [AV.lim]; split <;> first | exact .any _ | exact .optr (getElem?_take_lt h1 ‹_›)
  | osub h1 h2 h3 h4 => simp only [AV.lim]; split <;> first | exact .any _ | exact .osub (getElem?_take_lt h1 ‹_›) h2 h3 h4
  | orow h1 h2 => simp only [AV.lim]; split <;> first | exact .any _ | exact .orow (getElem?_take_lt h1 ‹_›) h2
  | orptr h1 h2 => simp only [AV.lim]; split <;> first | exact .any _ | exact .orptr (getElem?_take_lt h1 ‹_›) h2
  | agg h1 h3 h2 => exact .agg (by simpa using h1) h3 fun i => by rw [getD_map_lim1]; exact (h2 i).lim1 n k
  | tup h1 h2 => exact .tup (by simpa using h1) fun i => by rw [getD_map_lim1]; exact (h2 i).lim1 n k
end

/-- The state (env, os) may be seen as (env', os'): slots and objects are forgotten. -/
def LeM (e : Env) : List (Nat × AV) → Prop
  | [] => True
  | p :: t => e.fd p.1 = some p.2 ∧ LeM e t
def LeE (e e' : Env) : Prop := e'.n = e.n ∧ LeM e e'.m
/-- What is said of 'a' gives what is said of 'b'. -/
def AO.le (a b : AO) : Prop := a = b ∨ ∃ q q' : Ob, a = .ob q ∧ b = .ob q' ∧ ∀ base w g, q.p base w g → q'.p base w g
theorem AO.le.live {a b : AO} (h : a.le b) (hb : b.live) : a.live := by
  rcases h with rfl | ⟨q, q', rfl, rfl, _⟩
  · exact hb
  · trivial
theorem AO.le.ne {a b : AO} (h : a.le b) (hb : b ≠ .dead) : a ≠ .dead := by
  rcases h with rfl | ⟨q, q', rfl, rfl, _⟩
  · exact hb
  · simp
def LeO : List AO → List AO → Prop
  | _, [] => True
  | [], _ :: _ => False
  | a :: as0, b :: bs => (b = .dead ∨ a.le b) ∧ LeO as0 bs

structure Fit (env : Env) (os : List AO) (env' : Env) (os' : List AO) : Prop where
  e : LeE env env'
  o : LeO os os'
  le : env'.mp (AV.lim os'.length) = env'
  lo : os'.map (AO.lim os'.length) = os'

theorem LeM.get {e : Env} : ∀ {m : List (Nat × AV)}, LeM e m → ∀ k a, fdm m k = some a → e.fd k = some a
  | [], _, k, a, h => by cases h
  | (d, r) :: t, h, k, a, hk => by
    obtain ⟨h1, h2⟩ := h
    simp only [fdm] at hk
    cases hb : Nat.beq d k with
    | true =>
      rw [hb] at hk
      have := Nat.eq_of_beq_eq_true hb
      subst this
      simp only [cond_true, Option.some.injEq] at hk
      subst hk
      exact h1
    | false => rw [hb] at hk; exact LeM.get h2 k a hk
theorem LeE.get {e e' : Env} (h : LeE e e') : e'.n ≤ e.n ∧ ∀ i : Nat, e'.lk i = .any ∨ e.lk i = e'.lk i := by
  refine ⟨by rw [h.1]; exact Nat.le_refl _, fun i => ?_⟩
  cases hf : e'.fd i with
  | none => left; simp [Env.lk, hf]
  | some a =>
    right
    have hf' := hf
    simp only [Env.fd] at hf
    cases hb : Nat.blt i e'.n with
    | false => rw [hb] at hf; cases hf
    | true => rw [hb] at hf; rw [Env.lk_of hf', Env.lk_of (h.2.get i a hf)]

theorem LeO.get : ∀ {a b : List AO}, LeO a b → b.length ≤ a.length ∧ ∀ (i : Nat) y, b[i]? = some y → y = .dead ∨ ∃ x, a[i]? = some x ∧ x.le y
  | _, [], _ => ⟨by simp, fun i y h => by simp at h⟩
  | [], _ :: _, h => h.elim
  | a :: as0, b :: bs, h => by
    obtain ⟨h1, h2⟩ := h
    have ih := LeO.get h2
    refine ⟨by simpa using ih.1, fun i y hy => ?_⟩
    cases i with
    | zero => simp at hy ⊢; subst hy; exact h1
    | succ i => simpa using ih.2 i y (by simpa using hy)

theorem LeO.refl : ∀ a : List AO, LeO a a
  | [] => trivial
  | _ :: as0 => ⟨.inr (.inl rfl), LeO.refl as0⟩

theorem Rel.fit {base : Nat} {w : World} {gs : List Gh} {env env' : Env} {os os' : List AO} {tm : Array Value} (h : Rel base w gs env os tm) (f : Fit env os env' os') :
    ∃ gs', Rel base w gs' env' os' tm := by
  have fe := f.e.get
  have fo := f.o.get
  have hgl : os'.length ≤ gs.length := by rw [h.hl]; exact fo.1
  have back : ∀ {i : Nat} {x : Gh} {y : AO}, (gs.take os'.length)[i]? = some x → os'[i]? = some y → gs[i]? = some x ∧ (y = .dead ∨ ∃ z, os[i]? = some z ∧ z.le y) := by
    intro i x y hx hy
    have hi := (List.getElem?_eq_some_iff.1 hy).1
    rw [List.getElem?_take, if_pos hi] at hx
    exact ⟨hx, fo.2 i y hy⟩
  have kp : Keeps (okOf gs os) (okOf (gs.take os'.length) os') w w := by
    intro b hb _
    refine ⟨fun i x y hx hy hny hmem => ?_, rfl⟩
    obtain ⟨h1, h2⟩ := back hx hy
    rcases h2 with rfl | ⟨z, h2, hle⟩
    · exact hny.elim
    · exact hb i x z h1 h2 (hle.live hny) hmem
  refine ⟨gs.take os'.length, h.hb, by simp; omega, Nat.le_trans fe.1 h.hs, fun i => ?_, ?_, ?_, ?_⟩
  · rcases fe.2 i with e | e
    · rw [e]; exact .any _
    · have := (h.he i).lim os'.length kp
      rw [e] at this
      have e2 : (env'.lk i).lim os'.length = env'.lk i := by rw [← Env.lk_mp (AV.lim os'.length) rfl, f.le]
      rwa [e2] at this
  · intro i x y hx hy
    obtain ⟨h1, h2⟩ := back hx hy
    rcases h2 with rfl | ⟨z, h2, rfl | ⟨q, q', rfl, rfl, himp⟩⟩
    · trivial
    rotate_left 1
    · exact himp _ _ _ (h.ho i x _ h1 h2)
    · have hz := h.ho i x z h1 h2
      have e2 : z.lim os'.length = z := by
        have := congrArg (·[i]?) f.lo
        simp only [List.getElem?_map, hy, Option.map_some, Option.some.injEq] at this
        exact this
      cases z with
      | dead => trivial
      | ob q => exact hz
      | sli e xs => exact hz
      | slr e avs =>
        obtain ⟨vs, h1, h2, h3, h4⟩ := hz
        refine ⟨vs, h1, h2, fun j => ?_, h4⟩
        have := (h3 j).lim os'.length kp
        have e3 : (avs.getD j .any).lim os'.length = avs.getD j .any := by
          have : avs.map (AV.lim os'.length) = avs := by simpa [AO.lim] using e2
          rw [← getD_map_lim, this]
        rwa [e3] at this
      | sls e e2 xss => exact hz
      | bx T avs =>
        obtain ⟨cs, h1, h2, h3, h4, h5, h6, h7⟩ := hz
        refine ⟨cs, h1, h2, h3, h4, h5, h6, fun j => ?_⟩
        have := (h7 j).lim os'.length kp
        have e3 : (avs.getD j .any).lim os'.length = avs.getD j .any := by
          have : avs.map (AV.lim os'.length) = avs := by simpa [AO.lim] using e2
          rw [← getD_map_lim, this]
        rwa [e3] at this
      | keep m K =>
        obtain ⟨h1, h2, h3⟩ := hz
        refine ⟨h1, h2, fun i z' hi => ?_⟩
        have hlt := (List.getElem?_eq_some_iff.1 hi).1
        have hm : m ≤ os'.length := by
          simp only [AO.lim] at e2
          split at e2
          · assumption
          · simp only [AO.keep.injEq] at e2
            omega
        exact getElem?_take_lt (h3 i z' hi) (by omega)
  · intro i j g1 g2 o1 o2 hij hg1 hg2 ho1 ho2 hn1 hn2
    obtain ⟨a1, a2⟩ := back hg1 ho1
    obtain ⟨b1, b2⟩ := back hg2 ho2
    obtain ⟨z1, c1, l1⟩ := a2.resolve_left hn1
    obtain ⟨z2, c2, l2⟩ := b2.resolve_left hn2
    exact h.hd i j g1 g2 z1 z2 hij a1 b1 c1 c2 (l1.ne hn1) (l2.ne hn2)
  · intro i x y hx hy hny
    obtain ⟨h1, h2⟩ := back hx hy
    obtain ⟨z, c, l⟩ := h2.resolve_left hny
    exact h.hn i x z h1 c (l.ne hny)

/-! ### Handles get other numbers -/
def ixOf : List Nat → Nat → Option Nat
  | [], _ => none
  | s :: t, h => cond (Nat.beq s h) (some 0) ((ixOf t h).map (· + 1))
def AV.ren1 (σ : List Nat) : AV → AV
  | .own k => match ixOf σ k with | some j => .own j | none => .any
  | .optr k i => match ixOf σ k with | some j => .optr j i | none => .any
  | .osub k a b => match ixOf σ k with | some j => .osub j a b | none => .any
  | .orow k i => match ixOf σ k with | some j => .orow j i | none => .any
  | .orptr k i n => match ixOf σ k with | some j => .orptr j i n | none => .any
  | .agg _ => .any
  | .tup _ => .any
  | a => a
def AV.ren (σ : List Nat) : AV → AV
  | .own k => match ixOf σ k with | some j => .own j | none => .any
  | .optr k i => match ixOf σ k with | some j => .optr j i | none => .any
  | .osub k a b => match ixOf σ k with | some j => .osub j a b | none => .any
  | .orow k i => match ixOf σ k with | some j => .orow j i | none => .any
  | .orptr k i n => match ixOf σ k with | some j => .orptr j i n | none => .any
  | .agg l => .agg (l.map (AV.ren1 σ))
  | .tup l => .tup (l.map (AV.ren1 σ))
  | a => a
def AO.ren (σ : List Nat) : AO → AO
  | .bx T avs => .bx T (avs.map (AV.ren σ))
  | .slr e avs => .slr e (avs.map (AV.ren σ))
  | .keep n K => if n ≤ σ.length ∧ σ.take n = List.range n then .keep n K else .keep 0 ⟨K.snap, []⟩
  | o => o
/-- The objects that σ names, in its order. -/
def selO (σ : List Nat) (os : List AO) : List AO := σ.map fun h => (os.getD h .dead).ren σ
def okSel (σ : List Nat) (n : Nat) : Prop := σ.Nodup ∧ ∀ h ∈ σ, h < n

theorem ixOf_some : ∀ {σ : List Nat} {h j : Nat}, ixOf σ h = some j → σ[j]? = some h
  | [], _, _, e => by cases e
  | s :: t, h, j, e => by
    simp only [ixOf] at e
    cases hb : Nat.beq s h with
    | true => rw [hb] at e; simp at e; subst e; simp [Nat.eq_of_beq_eq_true hb]
    | false =>
      rw [hb] at e
      simp only [cond_false, Option.map_eq_some_iff] at e
      obtain ⟨i, hi, rfl⟩ := e
      simpa using ixOf_some hi

section
variable {w : World} {ok ok' : Nat → Prop} {gs : List Gh}
theorem get_sel {σ : List Nat} (g0 : Gh) {h j : Nat} {g : Gh} (hx : ixOf σ h = some j) (hg : gs[h]? = some g) : (σ.map fun k => gs.getD k g0)[j]? = some g := by
  have := ixOf_some hx
  simp [List.getElem?_map, this, hg]
theorem RV.ren1 (σ : List Nat) (g0 : Gh) (k : Keeps ok ok' w w) {v : Value} {a : AV} (hv : RV w ok gs v a) : RV w ok' (σ.map fun k => gs.getD k g0) v (a.ren1 σ) := by
  cases hv with
  | any v => exact .any v
  | val v => exact .val v
  | ints h => exact .ints (h.mono k)
  | intss h => exact .intss (h.mono k)
  | @ro v r h => exact .ro (r.up k h)
  | iptr h h1 h2 => exact .iptr (h.mono k) h1 h2
  | iiptr h h1 h2 => exact .iiptr (h.mono k) h1 h2
  | own h1 => simp only [AV.ren1]; split <;> first | exact .any _ | exact .own (get_sel g0 ‹_› h1)
  | optr h1 => simp only [AV.ren1]; split <;> first | exact .any _ | exact .optr (get_sel g0 ‹_› h1)
  | osub h1 h2 h3 h4 => simp only [AV.ren1]; split <;> first | exact .any _ | exact .osub (get_sel g0 ‹_› h1) h2 h3 h4
  | orow h1 h2 => simp only [AV.ren1]; split <;> first | exact .any _ | exact .orow (get_sel g0 ‹_› h1) h2
  | orptr h1 h2 => simp only [AV.ren1]; split <;> first | exact .any _ | exact .orptr (get_sel g0 ‹_› h1) h2
  | agg _ _ _ => exact .any _
  | tup _ _ => exact .any _
theorem getD_map_f (f : AV → AV) (hf : f .any = .any) (l : List AV) (i : Nat) : (l.map f).getD i .any = f (l.getD i .any) := by
  simp only [List.getD_eq_getElem?_getD, List.getElem?_map]
  cases l[i]? <;> simp [hf]
theorem RV.ren (σ : List Nat) (g0 : Gh) (k : Keeps ok ok' w w) {v : Value} {a : AV} (hv : RV w ok gs v a) : RV w ok' (σ.map fun k => gs.getD k g0) v (a.ren σ) := by
  cases hv with
  | any v => exact .any v
  | val v => exact .val v
  | ints h => exact .ints (h.mono k)
  | intss h => exact .intss (h.mono k)
  | @ro v r h => exact .ro (r.up k h)
  | iptr h h1 h2 => exact .iptr (h.mono k) h1 h2
  | iiptr h h1 h2 => exact .iiptr (h.mono k) h1 h2
  | own h1 => simp only [AV.ren]; split <;> first | exact .any _ | exact .own (get_sel g0 ‹_› h1)
  | optr h1 => simp only [AV.ren]; split <;> first | exact .any _ | exact .optr (get_sel g0 ‹_› h1)
  | osub h1 h2 h3 h4 => simp only [AV.ren]; split <;> first | exact .any _ | exact .osub (get_sel g0 ‹_› h1) h2 h3 h4
  | orow h1 h2 => simp only [AV.ren]; split <;> first | exact .any _ | exact .orow (get_sel g0 ‹_› h1) h2
  | orptr h1 h2 => simp only [AV.ren]; split <;> first | exact .any _ | exact .orptr (get_sel g0 ‹_› h1) h2
  | agg h1 h3 h2 => exact .agg (by simpa using h1) h3 fun i => by rw [getD_map_f _ rfl]; exact (h2 i).ren1 σ g0 k
  | tup h1 h2 => exact .tup (by simpa using h1) fun i => by rw [getD_map_f _ rfl]; exact (h2 i).ren1 σ g0 k
end

theorem Rel.sel {base : Nat} {w : World} {gs : List Gh} {env : Env} {os : List AO} {tm : Array Value} (h : Rel base w gs env os tm) (σ : List Nat) (hσ : okSel σ os.length) :
    ∃ gs', Rel base w gs' (env.mp (AV.ren σ)) (selO σ os) tm := by
  obtain ⟨hnd, hlt⟩ := hσ
  let g0 : Gh := ⟨undef, 0, [], []⟩
  have hl := h.hl
  -- where an object of the selection comes from
  have back : ∀ {i : Nat} {x : Gh} {y : AO}, (σ.map fun k => gs.getD k g0)[i]? = some x → (selO σ os)[i]? = some y → ∃ k z, σ[i]? = some k ∧ gs[k]? = some x ∧ os[k]? = some z ∧ y = z.ren σ := by
    intro i x y hx hy
    simp only [selO, List.getElem?_map] at hx hy
    cases hk : σ[i]? with
    | none => rw [hk] at hx; cases hx
    | some k =>
      have hkl := hlt k (List.mem_of_getElem? hk)
      rw [hk] at hx hy
      have e1 : gs[k]? = some gs[k] := List.getElem?_eq_getElem (by omega)
      have e2 : os[k]? = some os[k] := List.getElem?_eq_getElem hkl
      simp [e1] at hx
      simp [e2] at hy
      exact ⟨k, os[k], rfl, by rw [e1, hx], e2, hy.symm⟩
  have live : ∀ {z : AO}, (z.ren σ).live → z.live := by
    intro z hz
    cases z with
    | keep n K => simp only [AO.ren] at hz; split at hz <;> exact hz
    | dead => exact hz
    | _ => trivial
  have dead : ∀ {z : AO}, z.ren σ ≠ .dead → z ≠ .dead := by
    intro z hz e
    subst e
    exact hz rfl
  have kp : Keeps (okOf gs os) (okOf (σ.map fun k => gs.getD k g0) (selO σ os)) w w := by
    intro b hb _
    refine ⟨fun i x y hx hy hny hmem => ?_, rfl⟩
    obtain ⟨k, z, _, h1, h2, rfl⟩ := back hx hy
    exact hb k x z h1 h2 (live hny) hmem
  refine ⟨σ.map fun k => gs.getD k g0, h.hb, by simp [selO], h.hs, fun i => by rw [Env.lk_mp _ rfl]; exact (h.he i).ren σ g0 kp, ?_, ?_, ?_⟩
  · intro i x y hx hy
    obtain ⟨k, z, hk, h1, h2, rfl⟩ := back hx hy
    have hz := h.ho k x z h1 h2
    cases z with
    | dead => trivial
    | ob q => exact hz
    | sli e xs => exact hz
    | slr e avs =>
      obtain ⟨vs, a1, a2, a3, a4⟩ := hz
      exact ⟨vs, a1, by simpa using a2, fun j => by rw [getD_map_f _ rfl]; exact (a3 j).ren σ g0 kp, a4⟩
    | sls e e2 xss => exact hz
    | bx T avs =>
      obtain ⟨cs, a1, a2, a3, a4, a5, a6, a7⟩ := hz
      exact ⟨cs, a1, a2, a3, a4, by simpa using a5, a6, fun j => by rw [getD_map_f _ rfl]; exact (a7 j).ren σ g0 kp⟩
    | keep n K =>
      obtain ⟨a1, a2, a3⟩ := hz
      simp only [AO.ren]
      split
      · rename_i hc
        refine ⟨a1, a2, fun j g hg => ?_⟩
        have hj := (List.getElem?_eq_some_iff.1 hg).1
        have hg' := a3 j g hg
        have hσj : σ[j]? = some j := by
          have e : (σ.take n)[j]? = (List.range n)[j]? := by rw [hc.2]
          rw [List.getElem?_take, if_pos (by omega)] at e
          rw [e, List.getElem?_eq_getElem (by rw [List.length_range]; omega), List.getElem_range]
        simp [List.getElem?_map, hσj, hg']
      · exact ⟨a1, rfl, fun j g hg => by simp at hg⟩
  · intro i j g1 g2 o1 o2 hij hg1 hg2 ho1 ho2 hn1 hn2
    obtain ⟨k1, z1, e1, a1, b1, rfl⟩ := back hg1 ho1
    obtain ⟨k2, z2, e2, a2, b2, rfl⟩ := back hg2 ho2
    refine h.hd k1 k2 g1 g2 z1 z2 (fun e => hij ?_) a1 a2 b1 b2 (dead hn1) (dead hn2)
    subst e
    have l1 := (List.getElem?_eq_some_iff.1 e1).1
    exact (List.getElem?_inj l1 hnd).1 (e1.trans e2.symm)
  · intro i x y hx hy hny
    obtain ⟨k, z, _, h1, h2, rfl⟩ := back hx hy
    exact h.hn k x z h1 h2 (dead hny)

/-- Handles are numbered anew, then slots and objects are forgotten. -/
def FitS (σ : List Nat) (env : Env) (os : List AO) (env' : Env) (os' : List AO) : Prop := okSel σ os.length ∧ Fit (env.mp (AV.ren σ)) (selO σ os) env' os'
theorem Rel.fits {base : Nat} {w : World} {gs : List Gh} {env env' : Env} {os os' : List AO} {tm : Array Value} {σ : List Nat} (h : Rel base w gs env os tm) (f : FitS σ env os env' os') :
    ∃ gs', Rel base w gs' env' os' tm :=
  let ⟨_, h1⟩ := h.sel σ f.1
  h1.fit f.2

end Go.Proofs.Ytcolpjpppdmanaa
/-
  The rules of the abstract machine: control, regions (in the text's order, or drawn), quiet operations, calls. No condition.
-/
namespace Go.Proofs.Ytcolpjpppdmanaa
open Go Go.RowKit

abbrev APost := Env → List AO → Prop

def Post (base : Nat) (w0 : World) (N : APost) (X : Nat → APost) (Rt : APost) : Exit → Act → World → Prop
  | .normal, a, w => ∃ env os gs, Rel base w gs env os a.tmps ∧ a.defers = [] ∧ Below base w0 w ∧ N env os
  | .exit j, a, w => ∃ env os gs, Rel base w gs env os a.tmps ∧ a.defers = [] ∧ Below base w0 w ∧ X j env os
  | .ret, a, w => ∃ env os gs, Rel base w gs env os a.tmps ∧ a.defers = [] ∧ Below base w0 w ∧ Rt env os
  | _, _, _ => False

def AWp (P : Program) (c : Code) (N : APost) (X : Nat → APost) (Rt : APost) (env : Env) (os : List AO) : Prop :=
  ∀ base w0 w gs tm, Rel base w gs env os tm → Below base w0 w → c.wp P (Post base w0 N X Rt) ⟨tm, []⟩ w

section control
variable {P : Program} {N : APost} {X : Nat → APost} {Rt : APost} {env : Env} {os : List AO}

theorem AWp.seq {x y : Code} (h : AWp P x (fun env os => AWp P y N X Rt env os) X Rt env os) : AWp P (.seq x y) N X Rt env os := by
  intro base w0 w gs tm hr hb
  refine wp_seq (wp_mono (h base w0 w gs tm hr hb) ?_)
  intro e a w' hq
  cases e with
  | normal =>
    obtain ⟨env', os', gs', hr', hd, hb', hn⟩ := hq
    have := hn base w0 w' gs' a.tmps hr' hb'
    have ea : a = ⟨a.tmps, []⟩ := by cases a; simp_all
    rw [ea]; exact this
  | exit id => exact hq
  | goto l => exact hq
  | ret => exact hq
  | panic ch => exact hq
  | outgrown => exact hq

theorem AWp.skip (h : N env os) : AWp P .skip N X Rt env os :=
  fun _ _ _ gs _ hr hb => wp_skip ⟨env, os, gs, hr, rfl, hb, h⟩
theorem AWp.exit {j : Nat} (h : X j env os) : AWp P (.exit j) N X Rt env os :=
  fun _ _ _ gs _ hr hb => wp_exit ⟨env, os, gs, hr, rfl, hb, h⟩
theorem AWp.ret (h : Rt env os) : AWp P .ret N X Rt env os :=
  fun _ _ _ gs _ hr hb => wp_ret ⟨env, os, gs, hr, rfl, hb, h⟩

theorem AWp.block {id : Nat} {c : Code} (h : AWp P c N (fun j env os => if j = id then N env os else X j env os) Rt env os) : AWp P (.block id c) N X Rt env os := by
  intro base w0 w gs tm hr hb
  refine wp_block (wp_mono (h base w0 w gs tm hr hb) ?_)
  intro e a w' hq
  cases e with
  | normal => exact hq
  | exit j =>
    obtain ⟨env', os', gs', hr', hd, hb', hn⟩ := hq
    show if j = id then _ else _
    by_cases e : j = id
    · simp only [e, if_true] at hn ⊢; exact ⟨env', os', gs', hr', hd, hb', hn⟩
    · simp only [e, if_false] at hn ⊢; exact ⟨env', os', gs', hr', hd, hb', hn⟩
  | goto l => exact hq
  | ret => exact hq
  | panic ch => exact hq
  | outgrown => exact hq

/-- An operand's abstract value. -/
def AV.ev (env : Env) : Operand → AV
  | .tmp t => env.lk t
  | .const v => .val v
  | .global _ => .any
  | .func f => .val (.func (.func f) #[] #[])

theorem Rel.ev {base : Nat} {w : World} {gs : List Gh} {tm : Array Value} (h : Rel base w gs env os tm) (x : Operand) : RV w (okOf gs os) gs (Act.eval ⟨tm, []⟩ x) (AV.ev env x) := by
  cases x with
  | tmp t => exact h.he t
  | const v => exact .val v
  | global g => exact .any _
  | func f => exact .val _

theorem RV.val_eq {w : World} {ok : Nat → Prop} {gs : List Gh} {v u : Value} {a : AV} (h : RV w ok gs v a) (e : a = .val u) : v = u := by
  subst e; cases h; rfl

theorem Rel.evv {base : Nat} {w : World} {gs : List Gh} {tm : Array Value} (h : Rel base w gs env os tm) {x : Operand} {v : Value} (e : AV.ev env x = .val v) : Act.eval ⟨tm, []⟩ x = v :=
  (h.ev x).val_eq e

theorem AWp.cond {c : Operand} {b : Bool} {x y : Code} (hc : AV.ev env c = .val (.bool b)) (ht : b = true → AWp P x N X Rt env os) (hf : b = false → AWp P y N X Rt env os) :
    AWp P (.cond c x y) N X Rt env os := by
  intro base w0 w gs tm hr hb
  have he := hr.evv hc
  cases b
  · exact wp_cond he (by simpa using hf rfl base w0 w gs tm hr hb)
  · exact wp_cond he (by simpa using ht rfl base w0 w gs tm hr hb)

theorem AWp.mono {c : Code} {N' : APost} {X' : Nat → APost} {Rt' : APost} (h : AWp P c N X Rt env os) (hn : ∀ e o, N e o → N' e o) (hx : ∀ j e o, X j e o → X' j e o) (hrt : ∀ e o, Rt e o → Rt' e o) :
    AWp P c N' X' Rt' env os := by
  intro base w0 w gs tm hr hb
  refine wp_mono (h base w0 w gs tm hr hb) ?_
  intro e a w' hq
  cases e with
  | normal => obtain ⟨env', os', gs', a1, a2, a3, a4⟩ := hq; exact ⟨env', os', gs', a1, a2, a3, hn _ _ a4⟩
  | exit j => obtain ⟨env', os', gs', a1, a2, a3, a4⟩ := hq; exact ⟨env', os', gs', a1, a2, a3, hx _ _ _ a4⟩
  | ret => obtain ⟨env', os', gs', a1, a2, a3, a4⟩ := hq; exact ⟨env', os', gs', a1, a2, a3, hrt _ _ a4⟩
  | goto l => exact hq
  | panic ch => exact hq
  | outgrown => exact hq

theorem AWp.fit {c : Code} {env' : Env} {os' : List AO} (f : Fit env os env' os') (h : AWp P c N X Rt env' os') : AWp P c N X Rt env os := by
  intro base w0 w gs tm hr hb
  obtain ⟨gs', hr'⟩ := hr.fit f
  exact h base w0 w gs' tm hr' hb

/-- A LOOP: 'I x' is the state at a round's head, 'φ x' what is known there, 'μ' goes down. -/
theorem AWp.loop {c : Code} {ι : Type} (E : ι → Env) (O : ι → List AO) (φ : ι → Prop) (μ : ι → Nat) (x0 : ι) (h0 : φ x0) (f0 : Fit env os (E x0) (O x0))
    (round : ∀ x, φ x → AWp P c (fun env' os' => ∃ y, φ y ∧ μ y < μ x ∧ Fit env' os' (E y) (O y)) X Rt (E x) (O x)) : AWp P (.loop c) N X Rt env os := by
  intro base w0 w gs tm hr hb
  obtain ⟨gs0, hr0⟩ := hr.fit f0
  refine wp_loop_ghost (fun n a w' => ∃ x gs', φ x ∧ μ x = n ∧ Rel base w' gs' (E x) (O x) a.tmps ∧ a.defers = [] ∧ Below base w0 w') (μ x0) ⟨x0, gs0, h0, rfl, hr0, rfl, hb⟩ ?_
  rintro n a w1 ⟨x, gs1, hφ, rfl, hr1, hd, hb1⟩
  have ea : a = ⟨a.tmps, []⟩ := by cases a; simp_all
  rw [ea]
  refine wp_mono (round x hφ base w0 w1 gs1 a.tmps hr1 hb1) ?_
  intro e a' w' hq
  cases e with
  | normal =>
    obtain ⟨env', os', gs', r1, r2, r3, y, hy, hlt, hf⟩ := hq
    obtain ⟨gs2, hr2⟩ := r1.fit hf
    exact ⟨μ y, hlt, y, gs2, hy, rfl, hr2, r2, r3⟩
  | exit j => exact hq
  | ret => exact hq
  | goto l => exact hq
  | panic ch => exact hq
  | outgrown => exact hq
end control

/-! ### Regions -/

/-- How a region's operations are walked: one after the other; quiet, in the class of the worlds that are as this one was; worldless: in whatever world. -/
inductive Md where
  | seq
  | quiet
  | wless
def Md.wl : Md → Bool
  | .wless => true
  | _ => false

/-- Worldless operations, in the text's order. -/
def wpW (P : Program) (ops : Array Oper) (Q : Act → Prop) : List Oper → Act → Prop
  | [], a => Q a
  | o :: rest, a => ∃ v, Yields P ops o v a ∧ wpW P ops Q rest (a.put o.dst v)

/-- The operations 'rest' of the region 'l', in the text's order. -/
def AOps (P : Program) (q : Md) (l rest : List Oper) (K : APost) (env : Env) (os : List AO) : Prop :=
  match q with
  | .seq => ∀ base w0 w gs tm, Rel base w gs env os tm → Below base w0 w → ∀ X Rt, wpList P l.toArray (Post base w0 K X Rt) rest ⟨tm, []⟩ w
  | .quiet => ∀ base w gs tm, Rel base w gs env os tm →
    wpQuiet P l.toArray (fun w' => Below w.heap.size w w') (fun a' => ∃ env' os' gs', K env' os' ∧ a'.defers = [] ∧ ∀ w', Below w.heap.size w w' → Rel base w' gs' env' os' a'.tmps) rest ⟨tm, []⟩
  | .wless => ∀ base w gs tm, Rel base w gs env os tm →
    wpW P l.toArray (fun a' => ∃ env' os' gs', K env' os' ∧ a'.defers = [] ∧ Rel base w gs' env' os' a'.tmps) rest ⟨tm, []⟩

section regions
variable {P : Program} {N : APost} {X : Nat → APost} {Rt : APost} {env : Env} {os : List AO} {l rest : List Oper} {K : APost} {q : Md}

theorem AWp.region {id : Nat} (h : AOps P .seq l l N env os) : AWp P (.region id l.toArray false) N X Rt env os := by
  intro base w0 w gs tm hr hb
  exact wp_region_lit (h base w0 w gs tm hr hb X Rt)

theorem AWp.regionQ {id : Nat} (hm : P.follows .mixedOrders = true) (hB : Region.lexB .any l.toArray = true) (h : AOps P .quiet l l N env os) : AWp P (.region id l.toArray true) N X Rt env os := by
  intro base w0 w gs tm hr hb
  have hbel : Below w.heap.size w { w with drawn := w.drawn + 1 } := (Below.refl _ _).drew
  refine wp_region_quiet (C := fun w' => Below w.heap.size w w') hm hB hbel ?_
  have := h base w gs tm hr
  simp only
  refine wpQuiet_mono' ?_ this
  rintro a' ⟨env', os', gs', hk, hd, hrel⟩ w' hw'
  exact ⟨env', os', gs', hrel w' hw', hd, hb.trans (hw'.mono hr.hb), hk⟩
where
  wpQuiet_mono' {P : Program} {ops : Array Oper} {C : World → Prop} {Q Q' : Act → Prop} (hq : ∀ a, Q a → Q' a) : ∀ {rest : List Oper} {a : Act}, wpQuiet P ops C Q rest a → wpQuiet P ops C Q' rest a
    | [], a, h => hq a h
    | o :: rest, a, h => by
      unfold wpQuiet at h ⊢
      split
      · rename_i hw; rw [if_pos hw] at h
        exact Oper.quiet_mono (fun a' h' => wpQuiet_mono' hq h') h
      · rename_i hw; rw [if_neg hw] at h
        exact wpQuiet_mono' hq h

theorem AOps.nil (h : K env os) : AOps P q l [] K env os := by
  cases q
  · exact fun base w0 w gs tm hr hb X Rt => ⟨env, os, gs, hr, rfl, hb, h⟩
  · exact fun base w gs tm hr => ⟨env, os, gs, h, rfl, fun w' hw' => hr.below hw'⟩
  · exact fun base w gs tm hr => ⟨env, os, gs, h, rfl, hr⟩

/-- Is the operation wanted? By its guard. -/
def wantedA (l : List Oper) (env : Env) (o : Oper) : Option Bool :=
  match o.guard with
  | none => some true
  | some (j, pol) => match (l[j]?).bind (·.dst) with
    | none => none
    | some d => match env.fd d with
      | some (.val (.bool b)) => some (b == pol)
      | some (.val (.tuple _)) => some false
      | _ => none

theorem wantedA_spec {base : Nat} {w : World} {gs : List Gh} {tm : Array Value} (h : Rel base w gs env os tm) {o : Oper} {b : Bool} (hw : wantedA l env o = some b) :
    Region.wanted o (yielded l.toArray tm) = b := by
  unfold wantedA at hw
  unfold Region.wanted
  split at hw
  · rename_i hg; rw [hg]; simpa using hw
  · rename_i j pol hg
    rw [hg]
    simp only
    split at hw
    · cases hw
    · rename_i d hd
      split at hw
      · rename_i b' hv
        have hx := (h.he d).val_eq (Env.lk_of hv)
        have hlt : d < tm.size := by
          rcases Nat.lt_or_ge d env.n with h1 | h1
          · exact Nat.lt_of_lt_of_le h1 h.hs
          · have h3 : Nat.blt d env.n = false := by rw [Bool.eq_false_iff]; intro h4; rw [Nat.blt_eq] at h4; omega
            simp [Env.fd, h3] at hv
        have hy : tm[d]? = some (.bool b') := by
          rw [Array.getElem?_eq_getElem hlt]
          simpa [Array.getD, hlt] using hx
        have hyl : yielded l.toArray tm j = some b' := by
          unfold yielded
          simp only [List.getElem?_toArray, hd, Option.bind_some, hy]
        rw [hyl]
        simpa using hw
      · rename_i a' hv
        have hx := (h.he d).val_eq (Env.lk_of hv)
        have hlt : d < tm.size := by
          rcases Nat.lt_or_ge d env.n with h1 | h1
          · exact Nat.lt_of_lt_of_le h1 h.hs
          · have h3 : Nat.blt d env.n = false := by rw [Bool.eq_false_iff]; intro h4; rw [Nat.blt_eq] at h4; omega
            simp [Env.fd, h3] at hv
        have hy : tm[d]? = some (.tuple a') := by
          rw [Array.getElem?_eq_getElem hlt]
          simpa [Array.getD, hlt] using hx
        have hyl : yielded l.toArray tm j = none := by
          unfold yielded
          simp only [List.getElem?_toArray, hd, Option.bind_some, hy]
        rw [hyl]
        simpa using hw
      · cases hw

/-- One quiet operation: it yields a value of the abstract value r in every world that is as this one was; 'wl': in whatever world. -/
def QOp (P : Program) (wl : Bool) (o : Oper) (env : Env) (os : List AO) (r : AV) : Prop :=
  ∀ base w gs tm, Rel base w gs env os tm → ∃ v, RV w (okOf gs os) gs v r ∧ (wl = true → ∀ w', (execOp (Act.eval ⟨tm, []⟩) o).run P w' = .ok (.value v) w') ∧
    ∀ w', (wl = false → Below w.heap.size w w') → o.quietAt P ⟨tm, []⟩ (fun w'' => wl = false → Below w.heap.size w w'') w' v

theorem AOps.qo {d : Tmp} {op : Op} {ty : TypeId} {pos : String} {af : Array Edge} {g : Option (Nat × Bool)} {r : AV}
    (hw : wantedA l env ⟨some d, op, ty, pos, af, g⟩ = some true) (ho : QOp P q.wl ⟨some d, op, ty, pos, af, g⟩ env os r) (h : AOps P q l rest K (env.up d r) os) :
    AOps P q l (⟨some d, op, ty, pos, af, g⟩ :: rest) K env os := by
  have key : ∀ {v : Value} {w w' : World} {op : Oper} {tm : Array Value}, op.quietAt P ⟨tm, []⟩ (fun w'' => false = false → Below w.heap.size w w'') w' v → op.quietAt P ⟨tm, []⟩ (fun w'' => Below w.heap.size w w'') w' v := by
    intro v w w' op tm h
    have e : (fun w'' => false = false → Below w.heap.size w w'') = (fun w'' => Below w.heap.size w w'') := by funext w''; simp
    rwa [e] at h
  cases q
  · intro base w0 w gs tm hr hb X Rt
    obtain ⟨v, hv, _, hq⟩ := ho base w gs tm hr
    have hwa := wantedA_spec hr hw
    unfold wpList
    rw [if_pos hwa]
    refine .inl (Oper.wp_of_quiet (C := fun w' => Below w.heap.size w w') (K := fun a' => a' = Act.put ⟨tm, []⟩ (some d) v) (Below.refl _ _) ?_ ⟨v, fun w' hw' => key (hq w' fun _ => hw'), rfl⟩)
    intro a' w' hw' he
    subst he
    exact h base w0 w' gs _ ((hr.put hv d).below hw') (hb.trans (hw'.mono hr.hb)) X Rt
  · intro base w gs tm hr
    obtain ⟨v, hv, _, hq⟩ := ho base w gs tm hr
    have hwa := wantedA_spec hr hw
    unfold wpQuiet
    rw [if_pos hwa]
    exact ⟨v, fun w' hw' => key (hq w' fun _ => hw'), h base w gs _ (hr.put hv d)⟩
  · intro base w gs tm hr
    obtain ⟨v, hv, hq, _⟩ := ho base w gs tm hr
    exact ⟨v, .inl ⟨wantedA_spec hr hw, hq rfl⟩, h base w gs _ (hr.put hv d)⟩

theorem AOps.skip {d : Tmp} {op : Op} {ty : TypeId} {pos : String} {af : Array Edge} {g : Option (Nat × Bool)}
    (hw : wantedA l env ⟨some d, op, ty, pos, af, g⟩ = some false) (h : AOps P q l rest K (env.up d (.val undef)) os) :
    AOps P q l (⟨some d, op, ty, pos, af, g⟩ :: rest) K env os := by
  cases q
  · intro base w0 w gs tm hr hb X Rt
    have hwa := wantedA_spec hr hw
    unfold wpList
    rw [if_neg (by rw [hwa]; simp)]
    exact h base w0 w gs _ (hr.put (.val undef) d) hb X Rt
  · intro base w gs tm hr
    have hwa := wantedA_spec hr hw
    unfold wpQuiet
    rw [if_neg (by rw [hwa]; simp)]
    exact h base w gs _ (hr.put (.val undef) d)
  · intro base w gs tm hr
    exact ⟨undef, .inr ⟨wantedA_spec hr hw, rfl⟩, h base w gs _ (hr.put (.val undef) d)⟩

/-- A Bool in a slot is parted upon. -/
theorem AOps.split (d : Tmp) {b : Bool} (hd : env.lk d = .val (.bool b)) (ht : b = true → AOps P q l rest K (env.up d (.val (.bool true))) os)
    (hf : b = false → AOps P q l rest K (env.up d (.val (.bool false))) os) : AOps P q l rest K env os := by
  have key : ∀ {base : Nat} {w : World} {gs : List Gh} {tm : Array Value}, Rel base w gs env os tm → Rel base w gs (env.up d (.val (.bool b))) os tm := by
    intro base w gs tm h
    refine ⟨h.hb, h.hl, h.hs, fun i => ?_, h.ho, h.hd, h.hn⟩
    rw [Env.lk_up]
    split
    · rename_i hi
      have := h.he i
      rw [hi.1, hd] at this
      rw [hi.1]
      exact this
    · exact h.he i
  have h' : AOps P q l rest K (env.up d (.val (.bool b))) os := by
    cases b
    · exact hf rfl
    · exact ht rfl
  cases q
  · exact fun base w0 w gs tm hr hb X Rt => h' base w0 w gs tm (key hr) hb X Rt
  · exact fun base w gs tm hr => h' base w gs tm (key hr)
  · exact fun base w gs tm hr => h' base w gs tm (key hr)

end regions

/-! ### Loud operations -/

/-- One operation that makes or writes memory: the state behind it, and its value there. -/
def LOp (P : Program) (o : Oper) (env : Env) (os : List AO) (r : AV) (env1 : Env) (os1 : List AO) : Prop :=
  ∀ base w gs tm, Rel base w gs env os tm → ∃ v w' gs', ((execOp (Act.eval ⟨tm, []⟩) o).run P w = .ok (.value v) w' ∨ ((execOp (Act.eval ⟨tm, []⟩) o).run P w = .ok .skip w' ∧ v = undef)) ∧
    Rel base w' gs' env1 os1 tm ∧ RV w' (okOf gs' os1) gs' v r ∧ Below base w w'

/-- A call that makes or writes memory. -/
def COp (P : Program) (o : Oper) (env : Env) (os : List AO) (Q : AV → Env → List AO → Prop) : Prop :=
  ∀ base w gs tm, Rel base w gs env os tm → ∃ f args, (execOp (Act.eval ⟨tm, []⟩) o).run P w = .ok (.enter f args) w ∧
    Calls P f args w fun e w' => ∃ v r env1 os1 gs', e = .returned v ∧ Q r env1 os1 ∧ Rel base w' gs' env1 os1 tm ∧ RV w' (okOf gs' os1) gs' v r ∧ Below base w w'

section loud
variable {P : Program} {env env1 : Env} {os os1 : List AO} {l rest : List Oper} {K : APost} {op : Op} {ty : TypeId} {pos : String} {af : Array Edge} {r : AV}

theorem AOps.lo {d : Tmp} (ho : LOp P ⟨some d, op, ty, pos, af, none⟩ env os r env1 os1) (h : AOps P .seq l rest K (env1.up d r) os1) : AOps P .seq l (⟨some d, op, ty, pos, af, none⟩ :: rest) K env os := by
  intro base w0 w gs tm hr hb X Rt
  obtain ⟨v, w', gs', hrun, hr', hv, hb'⟩ := ho base w gs tm hr
  refine wpList_plain rfl fun K hK => ?_
  unfold Oper.wp
  rcases hrun with hrun | ⟨hrun, rfl⟩
  · rw [hrun]; exact hK _ _ (h base w0 w' gs' _ (hr'.put hv d) (hb.trans hb') X Rt)
  · rw [hrun]; exact hK _ _ (h base w0 w' gs' _ (hr'.put hv d) (hb.trans hb') X Rt)

theorem AOps.so (ho : LOp P ⟨none, op, ty, pos, af, none⟩ env os r env1 os1) (h : AOps P .seq l rest K env1 os1) : AOps P .seq l (⟨none, op, ty, pos, af, none⟩ :: rest) K env os := by
  intro base w0 w gs tm hr hb X Rt
  obtain ⟨v, w', gs', hrun, hr', hv, hb'⟩ := ho base w gs tm hr
  refine wpList_plain rfl fun K hK => ?_
  unfold Oper.wp
  rcases hrun with hrun | ⟨hrun, rfl⟩
  · rw [hrun]; exact hK _ _ (h base w0 w' gs' _ hr' (hb.trans hb') X Rt)
  · rw [hrun]; exact hK _ _ (h base w0 w' gs' _ hr' (hb.trans hb') X Rt)

theorem AOps.ca {d : Tmp} {Q : AV → Env → List AO → Prop} (ho : COp P ⟨some d, op, ty, pos, af, none⟩ env os Q) (h : ∀ r e o, Q r e o → AOps P .seq l rest K (e.up d r) o) :
    AOps P .seq l (⟨some d, op, ty, pos, af, none⟩ :: rest) K env os := by
  intro base w0 w gs tm hr hb X Rt
  obtain ⟨f, args, hrun, hc⟩ := ho base w gs tm hr
  refine wpList_plain rfl fun K hK => ?_
  unfold Oper.wp
  rw [hrun]
  refine hc.mono ?_
  rintro e w' ⟨v, r, env1, os1, gs', rfl, hq, hr', hv, hb'⟩
  exact hK _ _ (h r env1 os1 hq base w0 w' gs' _ (hr'.put hv d) (hb.trans hb') X Rt)

end loud

end Go.Proofs.Ytcolpjpppdmanaa
/-
  The quiet operations of the abstract machine: moves, arithmetic, comparisons, lengths, indexes, loads, parts of slices, calls that hand back plain values. No condition.
-/
namespace Go.Proofs.Ytcolpjpppdmanaa
open Go Go.RowKit

/-! ### Facts of the table of types -/
class TSlice (P : Program) (t : TypeId) (e : outParam TypeId) : Prop where
  und : P.underlying t = some (.slice e)
/-- A type of one cell that is no struct and no array. -/
class TCell (P : Program) (t : TypeId) : Prop where
  und : ∃ d, P.underlying t = some d ∧ (match d with | .struct _ | .array _ _ => true | _ => false) = false
  info : ∃ i, P.info? t = some i ∧ i.size = 1
/-- The zero value of an element's type, and its bytes. -/
class TElem (P : Program) (t : TypeId) (z : outParam Value) (bytes : outParam Nat) : Prop where
  info : ∃ i, P.info? t = some i ∧ i.size = 1 ∧ i.zero = some z ∧ i.bytes = bytes
  pos : 0 < bytes
class TKind (P : Program) (t : TypeId) (k : outParam IntKind) : Prop where
  und : P.underlying t = some (.int k)
class TBool (P : Program) (t : TypeId) : Prop where
  und : P.underlying t = some .bool
class TStr (P : Program) (t : TypeId) : Prop where
  und : P.underlying t = some .string
/-- A struct whose value has n cells. -/
class TStruct (P : Program) (t : TypeId) (n : outParam Nat) (zs : outParam (List Value)) : Prop where
  und : ∃ d, P.underlying t = some d ∧ (match d with | .struct _ | .array _ _ => true | _ => false) = true
  info : ∃ i, P.info? t = some i ∧ i.size = n ∧ i.zero = some (.agg zs.toArray) ∧ zs.length = n
class TField (P : Program) (t : TypeId) (f : Nat) (off : outParam Nat) : Prop where
  fld : ∃ fs fd i, P.underlying t = some (.struct fs) ∧ fs[f]? = some fd ∧ fd.offset = off ∧ P.info? fd.type = some i ∧ i.size = 1 ∧
    ∃ d, P.underlying fd.type = some d ∧ (match d with | .struct _ | .array _ _ => true | _ => false) = false

def geti (xs : List Int) (i : Int) : Int := xs.getD i.toNat 0
def gets (xss : List (List Int)) (i : Int) : List Int := xss.getD i.toNat []

section
variable {P : Program} {env : Env} {os : List AO} {d : Option Tmp} {ty : TypeId} {pos : String} {af : Array Edge} {g : Option (Nat × Bool)} {wl : Bool}

/-- The plainest way to a quiet operation. -/
theorem QOp.of_run {o : Oper} {r : AV} (h : ∀ base w gs tm, Rel base w gs env os tm → ∃ v, RV w (okOf gs os) gs v r ∧ ∀ w', (wl = false → Below w.heap.size w w') → (execOp (Act.eval ⟨tm, []⟩) o).run P w' = .ok (.value v) w') :
    QOp P wl o env os r := by
  intro base w gs tm hr
  obtain ⟨v, hv, hrun⟩ := h base w gs tm hr
  refine ⟨v, hv, fun e w' => hrun w' fun e' => (by rw [e] at e'; cases e'), fun w' hw' => ?_⟩
  unfold Oper.quietAt
  rw [hrun w' hw']
  exact ⟨rfl, rfl⟩
theorem QOp.of_runb {o : Oper} {r : AV} (h : ∀ base w gs tm, Rel base w gs env os tm → ∃ v, RV w (okOf gs os) gs v r ∧ ∀ w', Below w.heap.size w w' → (execOp (Act.eval ⟨tm, []⟩) o).run P w' = .ok (.value v) w') :
    QOp P false o env os r :=
  .of_run fun base w gs tm hr => let ⟨v, h1, h2⟩ := h base w gs tm hr; ⟨v, h1, fun w' hw' => h2 w' (hw' rfl)⟩

/-- A value already in place may be seen otherwise. -/
theorem QOp.cast {o : Oper} {r r' : AV} (e : r = r') (h : QOp P wl o env os r) : QOp P wl o env os r' := e ▸ h

theorem q_move {x : Operand} : QOp P wl ⟨d, .move x, ty, pos, af, g⟩ env os (AV.ev env x) :=
  .of_run fun _ _ _ _ hr => ⟨_, hr.ev x, fun _ _ => rfl⟩
theorem q_assign {x : Operand} : QOp P wl ⟨d, .assign x, ty, pos, af, g⟩ env os (AV.ev env x) :=
  .of_run fun _ _ _ _ hr => ⟨_, hr.ev x, fun _ _ => rfl⟩

theorem q_pick_t {c x y : Operand} (hc : AV.ev env c = .val (.bool true)) : QOp P wl ⟨d, .pick c x y, ty, pos, af, g⟩ env os (AV.ev env x) :=
  .of_run fun _ _ _ tm hr => ⟨_, hr.ev x, fun w' _ => by simp [execOp, hr.evv hc, asBool]⟩
theorem q_pick_f {c x y : Operand} (hc : AV.ev env c = .val (.bool false)) : QOp P wl ⟨d, .pick c x y, ty, pos, af, g⟩ env os (AV.ev env y) :=
  .of_run fun _ _ _ tm hr => ⟨_, hr.ev y, fun w' _ => by simp [execOp, hr.evv hc, asBool]⟩

/-- An operator on two known values. -/
theorem q_bin {op : BinOp} {xt yt : TypeId} {x y : Operand} {a b v : Value} (ha : AV.ev env x = .val a) (hb : AV.ev env y = .val b)
    (hg : eqGuard op xt x y a b = pure ()) (hrun : ∀ w, (binOp op xt a b).run P w = .ok v w) : QOp P wl ⟨d, .binOp op xt x y yt, ty, pos, af, g⟩ env os (.val v) :=
  .of_run fun _ _ _ tm hr => ⟨v, .val v, fun w' _ => by simp [execOp, hr.evv ha, hr.evv hb, hg, hrun]⟩

section ints
variable {xt yt : TypeId} {x y : Operand} {a b : Int} {k : IntKind}
theorem q_add (ha : AV.ev env x = .i a) (hb : AV.ev env y = .i b) (hi : inI (a + b)) : QOp P wl ⟨d, .binOp .add xt x y yt, ty, pos, af, g⟩ env os (.i (a + b)) :=
  q_bin ha hb (by simp [go_sem]) fun w => by simp [go_sem, IntWalk.i64_in _ hi]
theorem q_sub (ha : AV.ev env x = .i a) (hb : AV.ev env y = .i b) (hi : inI (a - b)) : QOp P wl ⟨d, .binOp .sub xt x y yt, ty, pos, af, g⟩ env os (.i (a - b)) :=
  q_bin ha hb (by simp [go_sem]) fun w => by simp [go_sem, IntWalk.i64_in _ hi]
theorem q_mul (ha : AV.ev env x = .i a) (hb : AV.ev env y = .i b) (hi : inI (a * b)) : QOp P wl ⟨d, .binOp .mul xt x y yt, ty, pos, af, g⟩ env os (.i (a * b)) :=
  q_bin ha hb (by simp [go_sem]) fun w => by simp [go_sem, IntWalk.i64_in _ hi]
theorem q_quoT (ha : AV.ev env x = .i a) (hb : AV.ev env y = .i b) (h0 : b ≠ 0) (hi : inI (a.tdiv b)) : QOp P wl ⟨d, .binOp .quo xt x y yt, ty, pos, af, g⟩ env os (.i (a.tdiv b)) :=
  q_bin ha hb (by simp [go_sem]) fun w => by simp [go_sem, IntWalk.i64_in _ hi, h0]
theorem q_remT (ha : AV.ev env x = .i a) (hb : AV.ev env y = .i b) (h0 : b ≠ 0) : QOp P wl ⟨d, .binOp .rem xt x y yt, ty, pos, af, g⟩ env os (.i (a.tmod b)) :=
  q_bin ha hb (by simp [go_sem]) fun w => by simp [go_sem, h0]
theorem q_quo (ha : AV.ev env x = .i a) (hb : AV.ev env y = .i b) (h0 : 0 ≤ a) (h1 : 0 < b) (hi : inI a) : QOp P wl ⟨d, .binOp .quo xt x y yt, ty, pos, af, g⟩ env os (.i (a / b)) := by
  have e : a.tdiv b = a / b := Int.tdiv_eq_ediv_of_nonneg h0
  have h2 : 0 ≤ a / b := Int.ediv_nonneg h0 (by omega)
  have h3 : a / b ≤ a := Int.ediv_le_self b h0
  have := q_quoT (P := P) (wl := wl) (os := os) (d := d) (ty := ty) (pos := pos) (af := af) (g := g) (xt := xt) (yt := yt) ha hb (by omega) (by rw [e]; unfold inI at *; omega)
  rwa [e] at this
theorem q_rem (ha : AV.ev env x = .i a) (hb : AV.ev env y = .i b) (h0 : 0 ≤ a) (h1 : 0 < b) : QOp P wl ⟨d, .binOp .rem xt x y yt, ty, pos, af, g⟩ env os (.i (a % b)) := by
  have e : a.tmod b = a % b := Int.tmod_eq_emod_of_nonneg h0
  have := q_remT (P := P) (wl := wl) (os := os) (d := d) (ty := ty) (pos := pos) (af := af) (g := g) (xt := xt) (yt := yt) ha hb (by omega)
  rwa [e] at this
theorem q_eql (ha : AV.ev env x = .val (.int k a)) (hb : AV.ev env y = .val (.int k b)) : QOp P wl ⟨d, .binOp .eql xt x y yt, ty, pos, af, g⟩ env os (.b (decide (a = b))) :=
  q_bin ha hb (by simp [go_sem]) fun w => by rw [binOp_eql, show (a == b) = decide (a = b) from by rw [Bool.eq_iff_iff]; simp]; rfl
theorem q_neq (ha : AV.ev env x = .val (.int k a)) (hb : AV.ev env y = .val (.int k b)) : QOp P wl ⟨d, .binOp .neq xt x y yt, ty, pos, af, g⟩ env os (.b (decide (a ≠ b))) :=
  q_bin ha hb (by simp [go_sem]) fun w => by rw [binOp_neq, show (a != b) = decide (a ≠ b) from by rw [Bool.eq_iff_iff]; simp]; rfl
theorem q_lss (ha : AV.ev env x = .val (.int k a)) (hb : AV.ev env y = .val (.int k b)) : QOp P wl ⟨d, .binOp .lss xt x y yt, ty, pos, af, g⟩ env os (.b (decide (a < b))) :=
  q_bin ha hb (by simp [go_sem]) fun w => by rw [binOp_lss]; rfl
theorem q_leq (ha : AV.ev env x = .val (.int k a)) (hb : AV.ev env y = .val (.int k b)) : QOp P wl ⟨d, .binOp .leq xt x y yt, ty, pos, af, g⟩ env os (.b (decide (a ≤ b))) :=
  q_bin ha hb (by simp [go_sem]) fun w => by rw [binOp_leq]; rfl
theorem q_gtr (ha : AV.ev env x = .val (.int k a)) (hb : AV.ev env y = .val (.int k b)) : QOp P wl ⟨d, .binOp .gtr xt x y yt, ty, pos, af, g⟩ env os (.b (decide (b < a))) :=
  q_bin ha hb (by simp [go_sem]) fun w => by rw [binOp_gtr]; rfl
theorem q_geq (ha : AV.ev env x = .val (.int k a)) (hb : AV.ev env y = .val (.int k b)) : QOp P wl ⟨d, .binOp .geq xt x y yt, ty, pos, af, g⟩ env os (.b (decide (b ≤ a))) :=
  q_bin ha hb (by simp [go_sem]) fun w => by rw [binOp_geq]; rfl
end ints

theorem q_eqlb {xt yt : TypeId} [ht : TBool P xt] {x y : Operand} {a b : Bool} (ha : AV.ev env x = .b a) (hb : AV.ev env y = .b b) : QOp P wl ⟨d, .binOp .eql xt x y yt, ty, pos, af, g⟩ env os (.b (decide (a = b))) :=
  q_bin ha hb (by simp [go_sem]) fun w => by rw [run_eql_bool w xt a b ht.und, show (a == b) = decide (a = b) from by rw [Bool.eq_iff_iff]; simp]
theorem q_neqb {xt yt : TypeId} [ht : TBool P xt] {x y : Operand} {a b : Bool} (ha : AV.ev env x = .b a) (hb : AV.ev env y = .b b) : QOp P wl ⟨d, .binOp .neq xt x y yt, ty, pos, af, g⟩ env os (.b (decide (a ≠ b))) :=
  q_bin ha hb (by simp [go_sem]) fun w => by rw [run_neq_bool w xt a b ht.und, show (!(a == b)) = decide (a ≠ b) from by rw [Bool.eq_iff_iff]; simp]

theorem q_not {xt : TypeId} {x : Operand} {b : Bool} (hb : AV.ev env x = .b b) : QOp P wl ⟨d, .unOp .not xt x, ty, pos, af, g⟩ env os (.b (!b)) :=
  .of_run fun _ _ _ tm hr => ⟨_, .val _, fun w' _ => by simp [execOp, hr.evv hb, Op.unary]⟩
theorem q_neg {xt : TypeId} {x : Operand} {a : Int} (ha : AV.ev env x = .i a) (hi : inI (0 - a)) : QOp P wl ⟨d, .unOp .neg xt x, ty, pos, af, g⟩ env os (.i (0 - a)) :=
  .of_run fun _ _ _ tm hr => ⟨_, .val _, fun w' _ => by have := IntWalk.i64_in _ hi; simp only [execOp, hr.evv ha, Op.unary, Op.intArith, this]; rfl⟩
theorem q_conv {src dst : TypeId} [hs : TKind P src .i64] [hd : TKind P dst .i64] {x : Operand} {a : Int} (ha : AV.ev env x = .i a) (hi : inI a) :
    QOp P wl ⟨d, .convert src dst x, ty, pos, af, g⟩ env os (.i a) :=
  .of_run fun _ _ _ tm hr => ⟨_, .val _, fun w' _ => by simp [execOp, hr.evv ha, convert, run_underlying hs.und, run_underlying hd.und, Conv.intToInt, IntWalk.i64_in _ hi]⟩
theorem q_min {ats : Array TypeId} {x y : Operand} {a b : Int} (ha : AV.ev env x = .i a) (hb : AV.ev env y = .i b) :
    QOp P wl ⟨d, .call { callee := .builtin .min, args := #[x, y], argTypes := ats }, ty, pos, af, g⟩ env os (.i (min a b)) :=
  .of_run fun _ _ _ tm hr => ⟨.int .i64 (if b < a then b else a), by
    have : (if b < a then b else a) = min a b := by simp only [Int.min_def]; split <;> split <;> omega
    rw [this]; exact .val _, fun w' _ => by simp [execOp, hr.evv ha, hr.evv hb, resolve, invoke, builtin, run_min_int2]⟩
theorem q_max {ats : Array TypeId} {x y : Operand} {a b : Int} (ha : AV.ev env x = .i a) (hb : AV.ev env y = .i b) :
    QOp P wl ⟨d, .call { callee := .builtin .max, args := #[x, y], argTypes := ats }, ty, pos, af, g⟩ env os (.i (max a b)) :=
  .of_run fun _ _ _ tm hr => ⟨.int .i64 (if b > a then b else a), by
    have : (if b > a then b else a) = max a b := by simp only [Int.max_def]; split <;> split <;> omega
    rw [this]; exact .val _, fun w' _ => by simp [execOp, hr.evv ha, hr.evv hb, resolve, invoke, builtin, run_max_int2]⟩

theorem q_extract {x : Operand} {l : List AV} {i : Nat} (hx : AV.ev env x = .tup l) (hi : i < l.length) : QOp P wl ⟨d, .extract x i, ty, pos, af, g⟩ env os (l.getD i .any) :=
  .of_run fun _ w gs tm hr => by
    have h := hr.ev x
    rw [hx] at h
    generalize hv : Act.eval ⟨tm, []⟩ x = v at h
    cases h with
    | @tup vs _ h1 h2 =>
      have hi' : i < vs.length := by omega
      refine ⟨_, h2 i, fun w' _ => ?_⟩
      simp [execOp, hv, Instr.extract, hi', List.getD_eq_getElem?_getD]
theorem q_extract_v {x : Operand} {vs : List Value} {i : Nat} {u : Value} (hx : AV.ev env x = .val (.tuple vs.toArray)) (hi : vs[i]? = some u) : QOp P wl ⟨d, .extract x i, ty, pos, af, g⟩ env os (.val u) :=
  .of_run fun _ w gs tm hr => ⟨u, .val u, fun w' _ => by simp [execOp, hr.evv hx, Instr.extract, hi]⟩

/-! ### Lengths -/
/-- The abstract value is a slice of n elements. -/
inductive HasLen (os : List AO) : AV → Nat → Prop
  | ints (xs : List Int) : HasLen os (.ints xs) xs.length
  | intss (xss : List (List Int)) : HasLen os (.intss xss) xss.length
  | nil : HasLen os (.val (.slice none 0 0)) 0
  | sli {h : Nat} {e : TypeId} {xs : List Int} : os[h]? = some (.sli e xs) → HasLen os (.own h) xs.length
  | slr {h : Nat} {e : TypeId} {avs : List AV} : os[h]? = some (.slr e avs) → HasLen os (.own h) avs.length
  | sls {h : Nat} {e e2 : TypeId} {xss : List (List Int)} : os[h]? = some (.sls e e2 xss) → HasLen os (.own h) xss.length
  | orow {h i : Nat} {e e2 : TypeId} {xss : List (List Int)} : os[h]? = some (.sls e e2 xss) → HasLen os (.orow h i) (xss.getD i []).length

theorem ownsRow_slice {w : World} {base : Nat} {e : TypeId} {size n : Nat} {v : Value} {xs : List Value} (h : w.ownsRow base e size v n xs) : ∃ a cap, v = .slice a n cap := by
  rcases h.2 with ⟨rfl, rfl⟩ | ⟨g, cap, _, rfl, _⟩
  · exact ⟨_, _, rfl⟩
  · exact ⟨_, _, rfl⟩

theorem HasLen.slice {base : Nat} {w : World} {gs : List Gh} {tm : Array Value} (hr : Rel base w gs env os tm) {v : Value} {a : AV} {n : Nat} (h : HasLen os a n) (hv : RV w (okOf gs os) gs v a) :
    ∃ p cap, v = .slice p n cap := by
  cases h with
  | ints xs => cases hv with | ints h1 => obtain ⟨⟨p, cap, e, _⟩, _⟩ := h1; exact ⟨p, cap, by simpa using e⟩
  | intss xss => cases hv with | intss h1 => obtain ⟨vs, ⟨p, cap, e, _⟩, hl, _⟩ := h1; exact ⟨p, cap, by rw [e, hl]⟩
  | nil => cases hv; exact ⟨_, _, rfl⟩
  | sli h1 => cases hv with | own hg => exact ownsRow_slice (hr.ho _ _ _ hg h1).1
  | slr h1 => cases hv with | own hg => obtain ⟨vs, a1, a2, _⟩ := hr.ho _ _ _ hg h1; rw [← a2]; exact ownsRow_slice a1
  | sls h1 => cases hv with | own hg => obtain ⟨vs, _, _, a1, a2, _⟩ := hr.ho _ _ _ hg h1; rw [← a2]; exact ownsRow_slice a1
  | orow h1 => cases hv with | orow hg hrow =>
      obtain ⟨vs, _, _, a1, a2, a3, a4, a5, _⟩ := hr.ho _ _ _ hg h1
      rw [a4] at hrow
      exact ownsRow_slice (a5 _ _ hrow).1

theorem q_len {t e : TypeId} [ht : TSlice P t e] {x : Operand} {n : Nat} (hx : HasLen os (AV.ev env x) n) :
    QOp P wl ⟨d, .call { callee := .builtin .len, args := #[x], argTypes := #[t] }, ty, pos, af, g⟩ env os (.i n) :=
  .of_run fun _ w gs tm hr => by
    obtain ⟨p, cap, hv⟩ := hx.slice hr (hr.ev x)
    refine ⟨_, .val _, fun w' _ => ?_⟩
    simp [execOp, resolve, invoke, builtin, hv, Builtin.len_, run_underlying ht.und, goInt]

/-! ### Indexes and loads of what is only read -/
theorem run_idx {t e : TypeId} (ht : P.underlying t = some (.slice e)) {i : TypeInfo} (hi : P.info? e = some i) (hs : i.size = 1) (a : Addr) (n cap : Nat) (j : Int) (h0 : 0 ≤ j) (h1 : j < n) (w : World) :
    (Instr.indexAt t (.slice (some a) n cap) (.int .i64 j)).run P w = .ok (.pointer (some (a.add j.toNat))) w := by
  simp [Instr.indexAt, run_underlying ht, asIntOf, sizeOf, typeInfo, hi, hs, h0, h1]

theorem q_idx_ints {t e : TypeId} [ht : TSlice P t e] [he : TCell P e] {x y : Operand} {xs : List Int} {i : Int} (hx : AV.ev env x = .ints xs) (hy : AV.ev env y = .i i) (h0 : 0 ≤ i) (h1 : i < xs.length) :
    QOp P wl ⟨d, .indexAddr t x y, ty, pos, af, g⟩ env os (.iptr xs i) :=
  .of_run fun _ w gs tm hr => by
    have h := hr.ev x
    rw [hx] at h
    generalize hv : Act.eval ⟨tm, []⟩ x = v at h
    cases h with
    | ints hxs =>
      refine ⟨_, .iptr hxs h0 h1, fun w' _ => ?_⟩
      obtain ⟨⟨p, cap, e1, _, _, h3⟩, _⟩ := hxs
      obtain ⟨b, off, rfl, _⟩ := h3 (by simp; omega)
      obtain ⟨ie, hi, hs⟩ := he.info
      have hrun := run_idx ht.und hi hs ⟨b, off, none⟩ (xs.map (Value.int .i64)).length cap i h0 (by simpa using h1) w'
      simp only [execOp, hv, e1, hr.evv hy, Sem.run_bind, hrun, eptr, Result.andThen_ok, Sem.run_pure]
theorem q_idx_intss {t e : TypeId} [ht : TSlice P t e] [he : TCell P e] {x y : Operand} {xss : List (List Int)} {i : Int} (hx : AV.ev env x = .intss xss) (hy : AV.ev env y = .i i) (h0 : 0 ≤ i) (h1 : i < xss.length) :
    QOp P wl ⟨d, .indexAddr t x y, ty, pos, af, g⟩ env os (.iiptr xss i) :=
  .of_run fun _ w gs tm hr => by
    have h := hr.ev x
    rw [hx] at h
    generalize hv : Act.eval ⟨tm, []⟩ x = v at h
    cases h with
    | intss hxs =>
      refine ⟨_, .iiptr hxs h0 h1, fun w' _ => ?_⟩
      obtain ⟨vs, ⟨p, cap, e1, _, _, h3⟩, hl, _⟩ := hxs
      obtain ⟨b, off, rfl, _⟩ := h3 (by omega)
      obtain ⟨ie, hi, hs⟩ := he.info
      have hrun := run_idx ht.und hi hs ⟨b, off, none⟩ vs.length cap i h0 (by omega) w'
      simp only [execOp, hv, e1, hr.evv hy, Sem.run_bind, hrun, eptr, Result.andThen_ok, Sem.run_pure]

theorem run_load_cell {t : TypeId} [ht : TCell P t] {a : Addr} {u : Value} {w : World} (hc : w.cell? a = some u) : (Instr.loadAt t (.pointer (some a))).run P w = .ok u w := by
  obtain ⟨dd, hu, hd⟩ := ht.und
  have hagg : (isAgg t).run P w = .ok false w := by
    unfold isAgg
    rw [Sem.run_bind, run_underlying hu w]
    cases dd <;> simp_all
  simp [Instr.loadAt, Instr.sureAddr, loadVar, hagg, hc]

theorem below_cell {w w' : World} (hw : Below w.heap.size w w') {a : Addr} {u : Value} (hc : w.cell? a = some u) : w'.cell? a = some u := by
  rw [hw.cell (World.block_lt_of_cell? w a hc)]; exact hc

theorem add_none (b o n : Nat) : (⟨b, o, none⟩ : Addr).add n = ⟨b, o + n, none⟩ := by unfold Addr.add; split <;> simp_all

theorem q_load_iptr {t : TypeId} [ht : TCell P t] {x : Operand} {xs : List Int} {i : Int} (hx : AV.ev env x = .iptr xs i) : QOp P false ⟨d, .load t x, ty, pos, af, g⟩ env os (.i (geti xs i)) :=
  .of_runb fun _ w gs tm hr => by
    have h := hr.ev x
    rw [hx] at h
    generalize hv : Act.eval ⟨tm, []⟩ x = v at h
    cases h with
    | @iptr v _ _ hxs h0 h1 =>
      refine ⟨_, .val _, fun w' hw' => ?_⟩
      obtain ⟨⟨p, cap, e1, _, _, h3⟩, _⟩ := hxs
      obtain ⟨b, off, rfl, _, hc⟩ := h3 (by simp; omega)
      have hlt : i.toNat < xs.length := by omega
      have hcell := below_cell hw' (hc i.toNat (.int .i64 (geti xs i)) (by simp [geti, hlt]))
      simp only [execOp, hv, e1, eptr, add_none, Sem.run_bind, run_load_cell hcell, Result.andThen_ok, Sem.run_pure]
theorem q_load_iiptr {t : TypeId} [ht : TCell P t] {x : Operand} {xss : List (List Int)} {i : Int} (hx : AV.ev env x = .iiptr xss i) : QOp P false ⟨d, .load t x, ty, pos, af, g⟩ env os (.ints (gets xss i)) :=
  .of_runb fun _ w gs tm hr => by
    have h := hr.ev x
    rw [hx] at h
    generalize hv : Act.eval ⟨tm, []⟩ x = v at h
    cases h with
    | @iiptr v _ _ hxs h0 h1 =>
      obtain ⟨vs, ⟨p, cap, e1, _, _, h3⟩, hl, hrow⟩ := hxs
      obtain ⟨b, off, rfl, _, hc⟩ := h3 (by omega)
      have hlt : i.toNat < vs.length := by omega
      have hrw := hrow i.toNat _ (List.getElem?_eq_getElem hlt)
      refine ⟨_, .ints hrw, fun w' hw' => ?_⟩
      have hcell := below_cell hw' (hc i.toNat _ (List.getElem?_eq_getElem hlt))
      simp only [execOp, hv, e1, eptr, add_none, Sem.run_bind, run_load_cell hcell, Result.andThen_ok, Sem.run_pure]

/-! ### Indexes and loads of the call's own memory -/
/-- What is known of a handle's slice. -/
theorem own_slice {w : World} {base : Nat} {e : TypeId} {v : Value} {n : Nat} {vs : List Value} (h : w.ownsRow base e 1 v n vs) {i : Nat} (hi : i < vs.length) :
    ∃ b cap, v = .slice (some ⟨b, 0, none⟩) n cap ∧ v.ownBlock = some b ∧ w.cell? ⟨b, i, none⟩ = vs[i]? ∧ w.frozen? ⟨b, i, none⟩ = false := by
  have hlen := h.1
  rcases h.2 with ⟨rfl, rfl⟩ | ⟨b, cap, cur, rfl, r⟩
  · simp at hlen; subst hlen; simp at hi
  · have h' : w.ownsRow base e 1 (.slice (some ⟨b, 0, none⟩) n cap) n vs := ⟨hlen, .inr ⟨b, cap, cur, rfl, r⟩⟩
    exact ⟨b, cap, rfl, rfl, h'.cellAt i (by omega), h'.frozenAt i⟩

theorem GB.eq {g : Gh} (h : GB g) {b : Nat} (hb : g.v.ownBlock = some b) : g.b = b := by
  rcases h with ⟨h1, _⟩ | ⟨h1, _⟩
  · rw [h1] at hb; cases hb
  · rw [h1] at hb; cases hb; rfl

/-- The cells of an object that is a slice, and where they lie. -/
inductive IsSl (os : List AO) (h : Nat) : Nat → Prop
  | sli {e : TypeId} {xs : List Int} : os[h]? = some (.sli e xs) → IsSl os h xs.length
  | slr {e : TypeId} {avs : List AV} : os[h]? = some (.slr e avs) → IsSl os h avs.length
  | sls {e e2 : TypeId} {xss : List (List Int)} : os[h]? = some (.sls e e2 xss) → IsSl os h xss.length

theorem IsSl.at {base : Nat} {w : World} {gs : List Gh} {tm : Array Value} (hr : Rel base w gs env os tm) {h n : Nat} (hs : IsSl os h n) {gh : Gh} (hg : gs[h]? = some gh) {i : Nat} (hi : i < n) :
    ∃ cap, gh.v = .slice (some ⟨gh.b, 0, none⟩) n cap := by
  cases hs with
  | sli ho =>
    obtain ⟨a1, a2, a3⟩ := hr.ho _ _ _ hg ho
    obtain ⟨b, cap, e1, e2, _⟩ := own_slice a1 (i := i) (by simpa using hi)
    rw [a3.eq e2]; exact ⟨cap, e1⟩
  | slr ho =>
    obtain ⟨vs, a1, a2, a3, a4⟩ := hr.ho _ _ _ hg ho
    obtain ⟨b, cap, e1, e2, _⟩ := own_slice a1 (i := i) (by omega)
    rw [a4.eq e2, ← a2]; exact ⟨cap, e1⟩
  | sls ho =>
    obtain ⟨vs, bs, mb, a1, a2, a3, a4, a5, a6, _⟩ := hr.ho _ _ _ hg ho
    obtain ⟨b, cap, e1, e2, _⟩ := own_slice a1 (i := i) (by omega)
    have : gh.b = b := by
      rcases a6 with ⟨h1, _⟩ | ⟨h1, _⟩
      · rw [h1] at e2; cases e2
      · rw [h1] at e2; cases e2; rfl
    rw [this, ← a2]; exact ⟨cap, e1⟩

theorem q_idx_own {t e : TypeId} [ht : TSlice P t e] [he : TCell P e] {x y : Operand} {h n : Nat} {i : Int} (hx : AV.ev env x = .own h) (hs : IsSl os h n) (hy : AV.ev env y = .i i) (h0 : 0 ≤ i) (h1 : i < n) :
    QOp P wl ⟨d, .indexAddr t x y, ty, pos, af, g⟩ env os (.optr h i.toNat) :=
  .of_run fun _ w gs tm hr => by
    have hh := hr.ev x
    rw [hx] at hh
    generalize hv : Act.eval ⟨tm, []⟩ x = v at hh
    cases hh with
    | @own _ gh hg =>
      refine ⟨_, .optr hg, fun w' _ => ?_⟩
      obtain ⟨cap, e1⟩ := hs.at hr hg (i := i.toNat) (by omega)
      obtain ⟨ie, hi, hs1⟩ := he.info
      have hrun := run_idx ht.und hi hs1 ⟨gh.b, 0, none⟩ n cap i h0 h1 w'
      simp only [execOp, hv, e1, hr.evv hy, Sem.run_bind, hrun, add_none, Nat.zero_add, Result.andThen_ok, Sem.run_pure]

theorem q_idx_orow {t e : TypeId} [ht : TSlice P t e] [he : TCell P e] {x y : Operand} {h j : Nat} {te te2 : TypeId} {xss : List (List Int)} {i : Int} (hx : AV.ev env x = .orow h j) (hs : os[h]? = some (.sls te te2 xss)) (hy : AV.ev env y = .i i)
    (h0 : 0 ≤ i) (h1 : i < (xss.getD j []).length) : QOp P wl ⟨d, .indexAddr t x y, ty, pos, af, g⟩ env os (.orptr h j i.toNat) :=
  .of_run fun _ w gs tm hr => by
    have hh := hr.ev x
    rw [hx] at hh
    generalize hv : Act.eval ⟨tm, []⟩ x = v at hh
    cases hh with
    | orow hg hrow =>
      have hrow' := hrow
      obtain ⟨vs, bs, mb, a1, a2, a3, a4, a5, _⟩ := hr.ho _ _ _ hg hs
      rw [a4] at hrow'
      obtain ⟨r1, _⟩ := a5 _ _ hrow'
      obtain ⟨b, cap, e1, _⟩ := own_slice r1 (i := i.toNat) (by rw [List.length_map]; omega)
      rw [e1] at hrow
      refine ⟨_, .orptr hg hrow, fun w' _ => ?_⟩
      obtain ⟨ie, hi, hs1⟩ := he.info
      have hrun := run_idx ht.und hi hs1 ⟨b, 0, none⟩ _ cap i h0 h1 w'
      simp only [execOp, hv, e1, hr.evv hy, Sem.run_bind, hrun, add_none, Nat.zero_add, Result.andThen_ok, Sem.run_pure]

theorem q_load_sli {t : TypeId} [ht : TCell P t] {x : Operand} {h i : Nat} {e : TypeId} {xs : List Int} (hx : AV.ev env x = .optr h i) (hs : os[h]? = some (.sli e xs)) (hi : i < xs.length) :
    QOp P false ⟨d, .load t x, ty, pos, af, g⟩ env os (.i (geti xs i)) :=
  .of_runb fun _ w gs tm hr => by
    have hh := hr.ev x
    rw [hx] at hh
    generalize hv : Act.eval ⟨tm, []⟩ x = v at hh
    cases hh with
    | optr hg =>
      refine ⟨_, .val _, fun w' hw' => ?_⟩
      obtain ⟨a1, a2, a3⟩ := hr.ho _ _ _ hg hs
      obtain ⟨b, cap, e1, e2, e3, _⟩ := own_slice a1 (i := i) (by simpa using hi)
      rw [a3.eq e2] at hv
      have hcell := below_cell hw' (u := .int .i64 (geti xs i)) (by rw [e3]; simp [geti, hi])
      simp only [execOp, hv, Sem.run_bind, run_load_cell hcell, Result.andThen_ok, Sem.run_pure]
theorem q_load_slr {t : TypeId} [ht : TCell P t] {x : Operand} {h i : Nat} {e : TypeId} {avs : List AV} {a : AV} (hx : AV.ev env x = .optr h i) (hs : os[h]? = some (.slr e avs)) (hi : avs[i]? = some a) :
    QOp P false ⟨d, .load t x, ty, pos, af, g⟩ env os a :=
  .of_runb fun _ w gs tm hr => by
    have hh := hr.ev x
    rw [hx] at hh
    generalize hv : Act.eval ⟨tm, []⟩ x = v at hh
    cases hh with
    | optr hg =>
      obtain ⟨vs, a1, a2, a3, a4⟩ := hr.ho _ _ _ hg hs
      have hiv : i < vs.length := by have := (List.getElem?_eq_some_iff.1 hi).1; omega
      have hrv := a3 i
      rw [List.getD_eq_getElem?_getD, List.getElem?_eq_getElem hiv, List.getD_eq_getElem?_getD, hi] at hrv
      simp only [Option.getD_some] at hrv
      refine ⟨_, hrv, fun w' hw' => ?_⟩
      obtain ⟨b, cap, e1, e2, e3, _⟩ := own_slice a1 (i := i) hiv
      rw [a4.eq e2] at hv
      have hcell := below_cell hw' (e3.trans (List.getElem?_eq_getElem hiv))
      simp only [execOp, hv, Sem.run_bind, run_load_cell hcell, Result.andThen_ok, Sem.run_pure]
theorem q_load_sls {t : TypeId} [ht : TCell P t] {x : Operand} {h i : Nat} {e e2 : TypeId} {xss : List (List Int)} (hx : AV.ev env x = .optr h i) (hs : os[h]? = some (.sls e e2 xss)) (hi : i < xss.length) :
    QOp P false ⟨d, .load t x, ty, pos, af, g⟩ env os (.orow h i) :=
  .of_runb fun _ w gs tm hr => by
    have hh := hr.ev x
    rw [hx] at hh
    generalize hv : Act.eval ⟨tm, []⟩ x = v at hh
    cases hh with
    | @optr _ _ gh hg =>
      obtain ⟨vs, bs, mb, a1, a2, a3, a4, a5, a6, _⟩ := hr.ho _ _ _ hg hs
      have hiv : i < vs.length := by omega
      refine ⟨vs[i], .orow hg (by rw [a4]; exact List.getElem?_eq_getElem hiv), fun w' hw' => ?_⟩
      obtain ⟨b, cap, e1, e2', e3, _⟩ := own_slice a1 (i := i) hiv
      have : gh.b = b := by
        rcases a6 with ⟨h1, _⟩ | ⟨h1, _⟩
        · rw [h1] at e2'; cases e2'
        · rw [h1] at e2'; cases e2'; rfl
      rw [this] at hv
      have hcell := below_cell hw' (e3.trans (List.getElem?_eq_getElem hiv))
      simp only [execOp, hv, Sem.run_bind, run_load_cell hcell, Result.andThen_ok, Sem.run_pure]
theorem q_load_orptr {t : TypeId} [ht : TCell P t] {x : Operand} {h i j : Nat} {e e2 : TypeId} {xss : List (List Int)} (hx : AV.ev env x = .orptr h i j) (hs : os[h]? = some (.sls e e2 xss)) (hj : j < (xss.getD i []).length) :
    QOp P false ⟨d, .load t x, ty, pos, af, g⟩ env os (.i (geti (xss.getD i []) j)) :=
  .of_runb fun _ w gs tm hr => by
    have hh := hr.ev x
    rw [hx] at hh
    generalize hv : Act.eval ⟨tm, []⟩ x = v at hh
    cases hh with
    | @orptr _ _ _ blk n c gh hg hrow =>
      obtain ⟨vs, bs, mb, a1, a2, a3, a4, a5, a6, _⟩ := hr.ho _ _ _ hg hs
      rw [a4] at hrow
      obtain ⟨r1, _⟩ := a5 _ _ hrow
      obtain ⟨b, cap, e1, e2', e3, _⟩ := own_slice r1 (i := j) (by simpa using hj)
      simp only [Value.slice.injEq, Option.some.injEq, Addr.mk.injEq, and_true] at e1
      obtain ⟨rfl, _, _⟩ := e1
      refine ⟨_, .val _, fun w' hw' => ?_⟩
      have hcell := below_cell hw' (u := .int .i64 (geti (xss.getD i []) j)) (by rw [e3]; generalize xss.getD i [] = row at hj ⊢; simp [geti, hj])
      simp only [execOp, hv, Sem.run_bind, run_load_cell hcell, Result.andThen_ok, Sem.run_pure]

/-- A cell of a variable. -/
theorem q_load_bx {t : TypeId} [ht : TCell P t] {x : Operand} {h i : Nat} {T : TypeId} {avs : List AV} (hx : AV.ev env x = .optr h i) (hs : os[h]? = some (.bx T avs)) (hi : i < avs.length) :
    QOp P false ⟨d, .load t x, ty, pos, af, g⟩ env os (avs.getD i .any) :=
  .of_runb fun _ w gs tm hr => by
    have hh := hr.ev x
    rw [hx] at hh
    generalize hv : Act.eval ⟨tm, []⟩ x = v at hh
    cases hh with
    | optr hg =>
      obtain ⟨cs, a1, a2, a3, a4, a5, a6, a7⟩ := hr.ho _ _ _ hg hs
      refine ⟨_, a7 i, fun w' hw' => ?_⟩
      have hi' : i < cs.length := by omega
      have hcell := below_cell hw' (u := cs.getD i undef) (by rw [cell_of_row w _ i _ T (0, 0) a1]; simp [List.getD_eq_getElem?_getD, hi'])
      simp only [execOp, hv, Sem.run_bind, run_load_cell hcell, Result.andThen_ok, Sem.run_pure]
/-- A whole variable of a struct's type. -/
theorem q_load_str {t : TypeId} {n : Nat} {zs : List Value} [ht : TStruct P t n zs] {x : Operand} {h : Nat} {T : TypeId} {avs : List AV} (hx : AV.ev env x = .optr h 0) (hs : os[h]? = some (.bx T avs)) (hn : avs.length = n) :
    QOp P false ⟨d, .load t x, ty, pos, af, g⟩ env os (.agg avs) :=
  .of_runb fun _ w gs tm hr => by
    have hh := hr.ev x
    rw [hx] at hh
    generalize hv : Act.eval ⟨tm, []⟩ x = v at hh
    cases hh with
    | optr hg =>
      obtain ⟨cs, a1, a2, a3, a4, a5, a6, a7⟩ := hr.ho _ _ _ hg hs
      refine ⟨_, .agg a5 a6 a7, fun w' hw' => ?_⟩
      obtain ⟨fs, hu, hag⟩ := ht.und
      obtain ⟨ii, hi, hsz, _⟩ := ht.info
      have hblk := (hw'.block _ (Array.getElem?_eq_some_iff.1 a1).1).trans a1
      have := run_loadVar_row (P := P) w' _ T t cs.toArray (0, 0) _ hblk hu (by cases fs <;> first | rfl | (simp at hag)) (by rw [hi]; simp [hsz, a5, hn])
      simp only [execOp, hv, Instr.loadAt, Instr.sureAddr, Sem.run_bind, Sem.run_pure, Result.andThen_ok, this]
theorem q_fieldAddr {t : TypeId} {f off : Nat} [ht : TField P t f off] {x : Operand} {h i : Nat} (hx : AV.ev env x = .optr h i) : QOp P wl ⟨d, .fieldAddr t x f, ty, pos, af, g⟩ env os (.optr h (i + off)) :=
  .of_run fun _ w gs tm hr => by
    have hh := hr.ev x
    rw [hx] at hh
    generalize hv : Act.eval ⟨tm, []⟩ x = v at hh
    cases hh with
    | optr hg =>
      refine ⟨_, .optr hg, fun w' hw' => ?_⟩
      obtain ⟨fs, fd, ii, h1, h2, h3, h4, h5, _⟩ := ht.fld
      simp [execOp, hv, Instr.fieldAt, run_underlying h1, h2, Instr.sureAddr, fieldPlace, sizeOf, typeInfo, h4, h5, h3, add_none]
theorem q_field {t : TypeId} {f off : Nat} [ht : TField P t f off] {x : Operand} {l : List AV} (hx : AV.ev env x = .agg l) (ho : off < l.length) : QOp P wl ⟨d, .field t x f, ty, pos, af, g⟩ env os (l.getD off .any) :=
  .of_run fun _ w gs tm hr => by
    have hh := hr.ev x
    rw [hx] at hh
    generalize hv : Act.eval ⟨tm, []⟩ x = v at hh
    cases hh with
    | @agg vs _ a1 _ a2 =>
      refine ⟨_, a2 off, fun w' hw' => ?_⟩
      obtain ⟨fs, fd, ii, h1, h2, h3, h4, h5, dd, h6, h7⟩ := ht.fld
      have hagg : (isAgg fd.type).run P w' = .ok false w' := by
        unfold isAgg
        rw [Sem.run_bind, run_underlying h6 w']
        cases dd <;> simp_all
      have hlt : off < vs.length := by omega
      simp [execOp, hv, Instr.field, run_underlying h1, h2, asAgg, part, hagg, h3, hlt, List.getD_eq_getElem?_getD]
end

end Go.Proofs.Ytcolpjpppdmanaa
/-
  Contracts of functions over abstract values, and calls by contract. No condition.
-/
namespace Go.Proofs.Ytcolpjpppdmanaa
open Go Go.RowKit

def RVs (w : World) (args : List AV) (vs : Array Value) : Prop := vs.size = args.length ∧ ∀ i : Nat, RV w (fun _ => True) [] (vs.getD i undef) (args.getD i .any)

def HasBody (P : Program) (f : FuncId) : Prop := ∃ fn c, P.funcs[f]? = some fn ∧ (fn.name == "runtime.NumGoroutine") = false ∧ fn.body = some c

theorem HasBody.run {P : Program} {f : FuncId} (h : HasBody P f) (args : Array Value) (w : World) : (callFunc f args).run P w = .ok (.enter f args) w := by
  obtain ⟨fn, c, h1, h2, h3⟩ := h
  have h2' : ¬ fn.name = "runtime.NumGoroutine" := by simpa using h2
  simp [callFunc, h1, h2', h3]

/-- The function hands back the plain value v; it leaves what was there. -/
def AFnV (P : Program) (f : FuncId) (args : List AV) (v : Value) : Prop :=
  HasBody P f ∧ ∀ w vs, RVs w args vs → Calls P f vs w fun e w' => e = .returned v ∧ Below w.heap.size w w'

/-- New objects in new memory, from 'base' on. -/
structure NewObjs (base : Nat) (w : World) (gs : List Gh) (os : List AO) : Prop where
  hl : gs.length = os.length
  ho : ∀ (h : Nat) g o, gs[h]? = some g → os[h]? = some o → RO base w (fun b => base ≤ b ∧ okOf gs os b) gs g o
  hd : ∀ (h k : Nat) g g' o o', h ≠ k → gs[h]? = some g → gs[k]? = some g' → os[h]? = some o → os[k]? = some o' → o ≠ .dead → o' ≠ .dead → ∀ b, b ∈ g.bl → b ∉ g'.bl
  hn : ∀ (h : Nat) g o, gs[h]? = some g → os[h]? = some o → o ≠ .dead → ∀ b, b ∈ g.bl → base ≤ b ∧ b < w.heap.size

/-- The function hands back r over the new objects os, of which Q speaks; it leaves what was there. -/
def AFn (P : Program) (f : FuncId) (args : List AV) (Q : AV → List AO → Prop) : Prop :=
  HasBody P f ∧ ∀ w vs, RVs w args vs → Calls P f vs w fun e w' => ∃ v r os gs, e = .returned v ∧ Q r os ∧ Below w.heap.size w w' ∧ NewObjs w.heap.size w' gs os ∧
    RV w' (fun b => w.heap.size ≤ b ∧ okOf gs os b) gs v r

/-! ### Handing values to a callee -/
/-- 'a' reads as 'r', where only the handles 'hs' lie behind it. -/
def Reads (os : List AO) (hs : List Nat) (a : AV) (r : Ro) : Prop := ∀ base w gs (ok : Nat → Prop), (∀ (h : Nat) g o, gs[h]? = some g → os[h]? = some o → RO base w (okOf gs os) gs g o) →
  (∀ h, h ∈ hs → ∀ g o, gs[h]? = some g → os[h]? = some o → o ≠ .dead → ∀ b, b ∈ g.bl → ok b) → Keeps (okOf gs os) ok w w → ∀ v, RV w (okOf gs os) gs v a → r.p w ok v
inductive Imm (os : List AO) : AV → AV → Prop
  | any (a : AV) : Imm os a .any
  | val (v : Value) : Imm os (.val v) (.val v)
  | ints (xs : List Int) : Imm os (.ints xs) (.ints xs)
  | intss (xss : List (List Int)) : Imm os (.intss xss) (.intss xss)
  | ro (r : Ro) : Imm os (.ro r) (.ro r)
  | sem (hs : List Nat) {a : AV} {r : Ro} : Reads os hs a r → Imm os a (.ro r)
  | nil : Imm os (.val (.slice none 0 0)) (.ints [])
  | nils : Imm os (.val (.slice none 0 0)) (.intss [])
  | sli {h : Nat} {e : TypeId} {xs : List Int} : os[h]? = some (.sli e xs) → Imm os (.own h) (.ints xs)
  | osub {h off len : Nat} {e : TypeId} {xs : List Int} : os[h]? = some (.sli e xs) → off + len ≤ xs.length → Imm os (.osub h off len) (.ints ((xs.drop off).take len))
  | sls {h : Nat} {e e2 : TypeId} {xss : List (List Int)} : os[h]? = some (.sls e e2 xss) → Imm os (.own h) (.intss xss)
  | orow {h i : Nat} {e e2 : TypeId} {xss : List (List Int)} : os[h]? = some (.sls e e2 xss) → Imm os (.orow h i) (.ints (xss.getD i []))
  | agg {l l' : List AV} : l.length = l'.length → (∀ i : Nat, Imm os (l.getD i .any) (l'.getD i .any)) → Imm os (.agg l) (.agg l')

theorem RowAt.of_owns {w : World} {base : Nat} {e : TypeId} {v : Value} {n : Nat} {vs : List Value} (h : w.ownsRow base e 1 v n vs) : RowAt w (fun _ => True) v vs := by
  have hl : vs.length = n := by simpa using h.1
  rcases h.2 with ⟨rfl, rfl⟩ | ⟨g, cap, cur, rfl, hb, hg, hnc, hcm, hcs, htake⟩
  · exact ⟨none, 0, by rw [hl], by omega, by simp [maxLen], fun h0 => by omega⟩
  · refine ⟨some ⟨g, 0, none⟩, cap, by rw [hl], by omega, hcm, fun _ => ⟨g, 0, rfl, trivial, fun i u hu => ?_⟩⟩
    have h' : w.ownsRow base e 1 (.slice (some ⟨g, 0, none⟩) n cap) n vs := ⟨h.1, .inr ⟨g, cap, cur, rfl, hb, hg, hnc, hcm, hcs, htake⟩⟩
    have hi := (List.getElem?_eq_some_iff.1 hu).1
    rw [Nat.zero_add, h'.cellAt i (by omega)]
    exact hu

theorem RowAt.nil {w : World} {ok : Nat → Prop} : RowAt w ok (.slice none 0 0) [] := ⟨none, 0, rfl, Nat.le_refl _, by simp [maxLen], fun h => by simp at h⟩
theorem IntsAt.nil {w : World} {ok : Nat → Prop} : IntsAt w ok (.slice none 0 0) [] := ⟨RowAt.nil, fun _ h => by cases h⟩
theorem IntssAt.nil {w : World} {ok : Nat → Prop} : IntssAt w ok (.slice none 0 0) [] := ⟨[], RowAt.nil, rfl, fun i u h => by simp at h⟩

theorem Imm.rv {base : Nat} {w : World} {gs : List Gh} {env : Env} {os : List AO} {tm : Array Value} (hr : Rel base w gs env os tm) {a a' : AV} (h : Imm os a a') :
    ∀ {v : Value}, RV w (okOf gs os) gs v a → RV w (fun _ => True) [] v a' := by
  have kp : Keeps (okOf gs os) (fun _ => True) w w := fun _ _ _ => ⟨trivial, rfl⟩
  induction h with
  | any a => intro v _; exact .any v
  | val v => intro v hv; cases hv; exact .val _
  | ints xs => intro v hv; cases hv with | ints h1 => exact .ints (h1.mono kp)
  | intss xss => intro v hv; cases hv with | intss h1 => exact .intss (h1.mono kp)
  | ro r => intro v hv; cases hv with | ro h1 => exact .ro (r.up kp h1)
  | sem hs h1 => intro v hv; exact .ro (h1 base w gs _ hr.ho (fun _ _ _ _ _ _ _ _ _ => trivial) kp v hv)
  | nil => intro v hv; cases hv; exact .ints IntsAt.nil
  | nils => intro v hv; cases hv; exact .intss IntssAt.nil
  | sli h1 => intro v hv; cases hv with | own hg =>
      obtain ⟨a1, a2, _⟩ := hr.ho _ _ _ hg h1
      exact .ints ⟨RowAt.of_owns a1, a2⟩
  | @osub h off len e xs h1 hle => intro v hv; cases hv with | osub hg hp hc hm =>
      obtain ⟨a1, a2, a3⟩ := hr.ho _ _ _ hg h1
      have hl : (((xs.drop off).take len).map (Value.int .i64)).length = len := by simp; omega
      refine .ints ⟨⟨_, _, by rw [hl], by omega, hm, fun h0 => ?_⟩, fun x hx => a2 x (List.mem_of_mem_drop (List.mem_of_mem_take hx))⟩
      rw [hl] at h0
      refine ⟨_, off, hp h0, trivial, fun i u hu => ?_⟩
      have hi := (List.getElem?_eq_some_iff.1 hu).1
      rw [hl] at hi
      obtain ⟨b, cap', e1, e2, e3, _⟩ := own_slice a1 (i := off + i) (by simp; omega)
      rw [a3.eq e2, e3, ← hu, List.map_take, List.map_drop, List.getElem?_take, if_pos hi, List.getElem?_drop]
  | sls h1 => intro v hv; cases hv with | own hg =>
      obtain ⟨vs, bs, mb, a1, a2, a3, a4, a5, _⟩ := hr.ho _ _ _ hg h1
      exact .intss ⟨vs, RowAt.of_owns a1, a2, fun i u hu => ⟨RowAt.of_owns (a5 i u hu).1, (a5 i u hu).2.1⟩⟩
  | orow h1 => intro v hv; cases hv with | orow hg hrow =>
      obtain ⟨vs, bs, mb, a1, a2, a3, a4, a5, _⟩ := hr.ho _ _ _ hg h1
      rw [a4] at hrow
      exact .ints ⟨RowAt.of_owns (a5 _ _ hrow).1, (a5 _ _ hrow).2.1⟩
  | agg h1 _ ih => intro v hv; cases hv with | agg h2 h4 h3 => exact .agg (by omega) h4 fun i => ih i (h3 i)

def Imms (os : List AO) : List AV → List AV → Prop
  | [], [] => True
  | a :: as0, b :: bs => Imm os a b ∧ Imms os as0 bs
  | _, _ => False

theorem Imms.get {os : List AO} : ∀ {l l' : List AV}, Imms os l l' → l.length = l'.length ∧ ∀ i : Nat, Imm os (l.getD i .any) (l'.getD i .any)
  | [], [], _ => ⟨rfl, fun i => .any _⟩
  | a :: as0, b :: bs, h => by
    obtain ⟨h1, h2⟩ := h
    have ih := Imms.get h2
    refine ⟨by simp [ih.1], fun i => ?_⟩
    cases i with
    | zero => simpa using h1
    | succ i => simpa using ih.2 i
  | [], _ :: _, h => h.elim
  | _ :: _, [], h => h.elim

theorem Imm.aggs {os : List AO} {l l' : List AV} (h : Imms os l l') : Imm os (.agg l) (.agg l') := .agg h.get.1 h.get.2

theorem Imms.rvs {base : Nat} {w : World} {gs : List Gh} {env : Env} {os : List AO} {tm : Array Value} (hr : Rel base w gs env os tm) {xs : List Operand} {args : List AV} (h : Imms os (xs.map (AV.ev env)) args) :
    RVs w args (xs.map (Act.eval ⟨tm, []⟩)).toArray := by
  have hg := h.get
  refine ⟨by simpa using hg.1, fun i => ?_⟩
  have h1 := hg.2 i
  have e1 : (xs.map (AV.ev env)).getD i .any = match xs[i]? with | some x => AV.ev env x | none => .any := by
    simp only [List.getD_eq_getElem?_getD, List.getElem?_map]; cases xs[i]? <;> rfl
  have e2 : (xs.map (Act.eval ⟨tm, []⟩)).toArray.getD i undef = match xs[i]? with | some x => Act.eval ⟨tm, []⟩ x | none => undef := by
    simp only [Array.getD_eq_getD_getElem?, List.getElem?_toArray, List.getElem?_map]; cases xs[i]? <;> rfl
  rw [e1] at h1
  rw [e2]
  cases hx : xs[i]? with
  | some x => rw [hx] at h1; exact h1.rv hr (hr.ev x)
  | none => rw [hx] at h1; exact h1.rv hr (.any _)

section
variable {P : Program} {env : Env} {os : List AO} {d : Option Tmp} {ty : TypeId} {pos : String} {af : Array Edge} {g : Option (Nat × Bool)}

theorem run_call {P : Program} {d : Option Tmp} {ty : TypeId} {pos : String} {af : Array Edge} {g : Option (Nat × Bool)} {f : FuncId} (hb : HasBody P f) (xs : List Operand) (ats : Array TypeId) (ρ : Operand → Value) (hρ : ρ (.func f) = .func (.func f) #[] #[]) (w : World) :
    (execOp ρ ⟨d, .call { callee := .value (.func f), args := xs.toArray, argTypes := ats }, ty, pos, af, g⟩).run P w = .ok (.enter f (xs.map ρ).toArray) w := by
  have := hb.run (xs.map ρ).toArray w
  simp only [execOp, resolve, hρ, Deferred.ofValue, Sem.run_bind, Sem.run_pure, Result.andThen_ok, invoke, List.map_toArray]
  simpa using this

theorem q_call {f : FuncId} {args : List AV} {v : Value} (hc : AFnV P f args v) {xs : List Operand} {ats : Array TypeId} (hi : Imms os (xs.map (AV.ev env)) args) :
    QOp P false ⟨d, .call { callee := .value (.func f), args := xs.toArray, argTypes := ats }, ty, pos, af, g⟩ env os (.val v) := by
  intro base w gs tm hr
  refine ⟨v, .val v, fun e => (by cases e), fun w' hw' => ?_⟩
  unfold Oper.quietAt
  rw [run_call hc.1 xs ats _ rfl]
  refine ⟨rfl, (hc.2 w' _ (hi.rvs (hr.below (hw' rfl)))).mono ?_⟩
  rintro e w'' ⟨rfl, hb⟩
  exact ⟨rfl, fun _ => (hw' rfl).trans (hb.mono (hw' rfl).size)⟩

/-! ### Results -/
def ResIs (P : Program) (fn : Func) (env : Env) (os : List AO) (a : AV) : Prop :=
  ∀ base w gs tm, Rel base w gs env os tm → ∃ v, (results fn tm).run P w = .ok v w ∧ RV w (okOf gs os) gs v a

theorem ResIs.t1 {fn : Func} {t : Tmp} (h : fn.results = #[.tmp t]) : ResIs P fn env os (env.lk t) :=
  fun _ _ _ tm hr => ⟨_, results_tmp h tm P _, hr.he t⟩
theorem ResIs.t2 {fn : Func} {t u : Tmp} (h : fn.results = #[.tmp t, .tmp u]) : ResIs P fn env os (.tup [env.lk t, env.lk u]) :=
  fun _ _ _ tm hr => ⟨_, results_tmp2 h tm P _, .tup (vs := [tm.getD t undef, tm.getD u undef]) rfl fun i => by
    match i with
    | 0 => exact hr.he t
    | 1 => exact hr.he u
    | i + 2 => exact .any _⟩
theorem ResIs.v2 {fn : Func} {t u : Tmp} (h : fn.results = #[.tmp t, .tmp u]) {a b : Value} (ha : env.lk t = .val a) (hb : env.lk u = .val b) : ResIs P fn env os (.val (.tuple #[a, b])) :=
  fun _ _ _ tm hr => ⟨_, results_tmp2 h tm P _, by rw [(hr.he t).val_eq ha, (hr.he u).val_eq hb]; exact .val _⟩
theorem ResIs.v3 {fn : Func} {t u s : Tmp} (h : fn.results = #[.tmp t, .tmp u, .tmp s]) {a b c : Value} (ha : env.lk t = .val a) (hb : env.lk u = .val b) (hc : env.lk s = .val c) :
    ResIs P fn env os (.val (.tuple #[a, b, c])) :=
  fun _ _ _ tm hr => ⟨.tuple #[tm.getD t undef, tm.getD u undef, tm.getD s undef], by simp [results, h], by rw [(hr.he t).val_eq ha, (hr.he u).val_eq hb, (hr.he s).val_eq hc]; exact .val _⟩

theorem res_cell {T : TypeId} {n : Nat} {zs : List Value} [ht : TStruct P T n zs] {p : Tmp} {h : Nat} {T' : TypeId} {avs : List AV} (hp : env.lk p = .optr h 0) (hs : os[h]? = some (.bx T' avs)) (hn : avs.length = n)
    {base : Nat} {w : World} {gs : List Gh} {tm : Array Value} (hr : Rel base w gs env os tm) :
    ∃ b cs, tm.getD p undef = .pointer (some ⟨b, 0, none⟩) ∧ (loadVar T ⟨b, 0, none⟩).run P w = .ok (.agg cs) w ∧ RV w (okOf gs os) gs (.agg cs) (.agg avs) := by
  have hh := hr.he p
  rw [hp] at hh
  generalize hv : tm.getD p undef = v at hh
  cases hh with
  | @optr _ _ gh hg =>
    obtain ⟨cs, a1, a2, a3, a4, a5, a6, a7⟩ := hr.ho _ _ _ hg hs
    obtain ⟨fs, hu, hag⟩ := ht.und
    obtain ⟨ii, hi, hsz, _⟩ := ht.info
    exact ⟨gh.b, cs.toArray, rfl, run_loadVar_row (P := P) w _ T' T cs.toArray (0, 0) _ a1 hu (by cases fs <;> first | rfl | (simp at hag)) (by rw [hi]; simp [hsz, a5, hn]), .agg a5 a6 a7⟩

theorem ResIs.c1 {fn : Func} {p : Tmp} {T : TypeId} (h : fn.results = #[.cell p T]) {n : Nat} {zs : List Value} [ht : TStruct P T n zs] {k : Nat} {T' : TypeId} {avs : List AV} (hp : env.lk p = .optr k 0) (hs : os[k]? = some (.bx T' avs)) (hn : avs.length = n) :
    ResIs P fn env os (.agg avs) := by
  intro base w gs tm hr
  obtain ⟨b, cs, e1, e2, e3⟩ := res_cell (P := P) (T := T) hp hs hn hr
  have e1' : tm[p]?.getD undef = .pointer (some ⟨b, 0, none⟩) := by simpa using e1
  exact ⟨.agg cs, by simp [results, h, e1', asAddr, e2], e3⟩
/-! ### From a body to a contract -/
def enumF : Nat → List AV → List (Nat × AV)
  | _, [] => []
  | k, a :: as0 => (k, a) :: enumF (k + 1) as0
/-- The slots as a call begins. -/
def Env.start (args : List AV) (n : Nat) : Env := ⟨args.length + n, enumF 0 args⟩
theorem fdm_enumF (args : List AV) : ∀ (j k : Nat), j ≤ k → fdm (enumF j args) k = args[k - j]? := by
  induction args with
  | nil => intro j k _; rfl
  | cons a as0 ih =>
    intro j k hjk
    simp only [enumF, fdm]
    by_cases h : j = k
    · subst h
      simp
    · have h1 : Nat.beq j k = false := by rw [Bool.eq_false_iff]; intro h4; exact h (Nat.eq_of_beq_eq_true h4)
      rw [h1, cond_false, ih (j + 1) k (by omega)]
      have : k - j = (k - (j + 1)) + 1 := by omega
      rw [this, List.getElem?_cons_succ]

theorem Rel.start {w : World} {args : List AV} {vs : Array Value} (h : RVs w args vs) (n : Nat) :
    Rel w.heap.size w [] (Env.start args n) [] (vs ++ Array.replicate n undef) where
  hb := Nat.le_refl _
  hl := rfl
  hs := by simp [h.1, Env.start]
  he i := by
    have e1 : (Env.start args n).lk i = args.getD i .any := by
      simp only [Env.lk, Env.fd, Env.start, fdm_enumF args 0 i (Nat.zero_le _), Nat.sub_zero]
      rw [List.getD_eq_getElem?_getD]
      cases hb : Nat.blt i (args.length + n) with
      | true => rfl
      | false =>
        have : ¬ i < args.length + n := by intro h4; rw [← Nat.blt_eq, hb] at h4; cases h4
        rw [List.getElem?_eq_none (by omega)]; rfl
    have e2 : (vs ++ Array.replicate n undef).getD i undef = vs.getD i undef := by
      simp only [Array.getD_eq_getD_getElem?, Array.getElem?_append]
      split
      · rfl
      · rename_i hi
        rw [Array.getElem?_eq_none (Nat.le_of_not_lt hi), Array.getElem?_replicate]
        split <;> rfl
    rw [e1, e2]
    exact (h.2 i).mono (fun b _ _ => ⟨fun k g o hg => by simp at hg, rfl⟩) (fun _ _ e => e)
  ho k g o hg := by simp at hg
  hd h k g g' o o' _ hg := by simp at hg
  hn h g o hg := by simp at hg

theorem AFnV.of {f : FuncId} {fn : Func} {c : Code} {args : List AV} {v : Value} {n : Nat} (hf : P.funcs[f]? = some fn) (hb : fn.body = some c) (hnm : (fn.name == "runtime.NumGoroutine") = false) (hn : fn.ntmps - args.length = n)
    (h : AWp P c (fun _ _ => False) (fun _ _ _ => False) (fun env os => ResIs P fn env os (.val v)) (Env.start args n) []) : AFnV P f args v := by
  refine ⟨⟨fn, c, hf, hnm, hb⟩, fun w vs hvs => calls_of_wp hf hb ?_⟩
  rw [show fn.ntmps - vs.size = n by rw [hvs.1]; exact hn]
  refine wp_mono (h w.heap.size w w [] _ (Rel.start hvs n) (Below.refl _ _)) ?_
  intro e a w' hq
  cases e with
  | normal => obtain ⟨_, _, _, _, _, _, hx⟩ := hq; exact hx.elim
  | exit j => obtain ⟨_, _, _, _, _, _, hx⟩ := hq; exact hx.elim
  | ret =>
    obtain ⟨env, os, gs, hr, hd, hbel, hx⟩ := hq
    obtain ⟨u, hu, hv⟩ := hx _ _ _ _ hr
    cases hv
    exact ⟨hd, v, hu, rfl, hbel⟩
  | goto l => exact (hq : False).elim
  | panic ch => exact (hq : False).elim
  | outgrown => exact (hq : False).elim

/-- The abstract value 'a' may be handed back as 'r' over the objects 'objs'. -/
def Ret1 (os : List AO) (a r : AV) (objs : List AO) : Prop :=
  ∀ base w gs env tm, Rel base w gs env os tm → ∀ v, RV w (okOf gs os) gs v a → ∃ gs', NewObjs base w gs' objs ∧ RV w (fun b => base ≤ b ∧ okOf gs' objs b) gs' v r

theorem AFn.of {f : FuncId} {fn : Func} {c : Code} {args : List AV} {Q : AV → List AO → Prop} {n : Nat} (hf : P.funcs[f]? = some fn) (hb : fn.body = some c) (hnm : (fn.name == "runtime.NumGoroutine") = false) (hn : fn.ntmps - args.length = n)
    (h : AWp P c (fun _ _ => False) (fun _ _ _ => False) (fun env os => ∃ a r objs, ResIs P fn env os a ∧ Ret1 os a r objs ∧ Q r objs) (Env.start args n) []) : AFn P f args Q := by
  refine ⟨⟨fn, c, hf, hnm, hb⟩, fun w vs hvs => calls_of_wp hf hb ?_⟩
  rw [show fn.ntmps - vs.size = n by rw [hvs.1]; exact hn]
  refine wp_mono (h w.heap.size w w [] _ (Rel.start hvs n) (Below.refl _ _)) ?_
  intro e a w' hq
  cases e with
  | normal => obtain ⟨_, _, _, _, _, _, hx⟩ := hq; exact hx.elim
  | exit j => obtain ⟨_, _, _, _, _, _, hx⟩ := hq; exact hx.elim
  | ret =>
    obtain ⟨env, os, gs, hr, hd, hbel, a', r, objs, h1, h2, h3⟩ := hq
    obtain ⟨u, hu, hv⟩ := h1 _ _ _ _ hr
    obtain ⟨gs', h4, h5⟩ := h2 _ _ _ _ _ hr u hv
    exact ⟨hd, u, hu, u, r, objs, gs', rfl, h3, hbel, h4, h5⟩
  | goto l => exact (hq : False).elim
  | panic ch => exact (hq : False).elim
  | outgrown => exact (hq : False).elim

theorem NewObjs.one {base : Nat} {w : World} {g : Gh} {o : AO} (ho : RO base w (fun b => base ≤ b ∧ okOf [g] [o] b) [g] g o) (hn : ∀ b, b ∈ g.bl → base ≤ b ∧ b < w.heap.size) : NewObjs base w [g] [o] where
  hl := rfl
  ho h g' o' hg ho' := by
    cases h with
    | zero => simp at hg ho'; subst hg; subst ho'; exact ho
    | succ h => simp at hg
  hd h k g1 g2 o1 o2 hne h1 h2 := by
    cases h with
    | zero => cases k with
      | zero => exact absurd rfl hne
      | succ k => simp at h2
    | succ h => simp at h1
  hn h g' o' hg _ _ b hb := by
    cases h with
    | zero => simp at hg; subst hg; exact hn b hb
    | succ h => simp at hg

theorem Ret1.val (v : Value) : Ret1 os (.val v) (.val v) [] := fun base w gs env tm hr u hu => by
  cases hu
  exact ⟨[], ⟨rfl, fun h g o hg => by simp at hg, fun h k g g' o o' _ hg => by simp at hg, fun h g o hg => by simp at hg⟩, .val _⟩
theorem Ret1.sli {h : Nat} {e : TypeId} {xs : List Int} (hs : os[h]? = some (.sli e xs)) : Ret1 os (.own h) (.own 0) [.sli e xs] := fun base w gs env tm hr u hu => by
  cases hu with
  | @own _ g hg => exact ⟨[g], .one (hr.ho _ _ _ hg hs) fun b hb => hr.hn _ _ _ hg hs (by simp) b hb, .own rfl⟩
theorem Ret1.sls {h : Nat} {e e2 : TypeId} {xss : List (List Int)} (hs : os[h]? = some (.sls e e2 xss)) : Ret1 os (.own h) (.own 0) [.sls e e2 xss] := fun base w gs env tm hr u hu => by
  cases hu with
  | @own _ g hg => exact ⟨[g], .one (hr.ho _ _ _ hg hs) fun b hb => hr.hn _ _ _ hg hs (by simp) b hb, .own rfl⟩
theorem Ret1.nil (e : TypeId) : Ret1 os (.val (.slice none 0 0)) (.own 0) [.sli e []] := fun base w gs env tm hr u hu => by
  cases hu
  exact ⟨[⟨.slice none 0 0, 0, [], []⟩], .one ⟨World.ownsRow_nil w base e 1, fun _ h => (by cases h), .inl ⟨rfl, rfl⟩⟩ (fun b hb => by simp at hb), .own (g := ⟨.slice none 0 0, 0, [], []⟩) rfl⟩
theorem Ret1.nils (e e2 : TypeId) : Ret1 os (.val (.slice none 0 0)) (.own 0) [.sls e e2 []] := fun base w gs env tm hr u hu => by
  cases hu
  exact ⟨[⟨.slice none 0 0, 0, [], []⟩], .one ⟨[], [], [], World.ownsRow_nil w base e 1, rfl, rfl, rfl, fun i u h => (by simp at h), .inl ⟨rfl, rfl⟩, rfl, by simp⟩ (fun b hb => by simp at hb),
    .own (g := ⟨.slice none 0 0, 0, [], []⟩) rfl⟩
/-- A tuple whose second part is plain. -/
theorem Ret1.tup2 {a r : AV} {objs : List AO} {v : Value} (h : Ret1 os a r objs) : Ret1 os (.tup [a, .val v]) (.tup [r, .val v]) objs := fun base w gs env tm hr u hu => by
  cases hu with
  | @tup vs _ h1 h2 =>
    match vs, h1 with
    | [x, y], _ =>
      obtain ⟨gs', h3, h4⟩ := h base w gs env tm hr x (by simpa using h2 0)
      have h5 := h2 1
      simp at h5
      cases h5
      exact ⟨gs', h3, .tup (vs := [x, v]) rfl fun i => by
        match i with
        | 0 => exact h4
        | 1 => exact .val _
        | i + 2 => exact .any _⟩
end

/-! ### A call that hands back new memory -/
def AV.sh0 (n : Nat) : AV → AV
  | .own k => .own (k + n)
  | .optr k i => .optr (k + n) i
  | .osub k a b => .osub (k + n) a b
  | .orow k i => .orow (k + n) i
  | .orptr k i j => .orptr (k + n) i j
  | .agg _ => .any
  | .tup _ => .any
  | a => a
def AV.sh1 (n : Nat) : AV → AV
  | .own k => .own (k + n)
  | .optr k i => .optr (k + n) i
  | .osub k a b => .osub (k + n) a b
  | .orow k i => .orow (k + n) i
  | .orptr k i j => .orptr (k + n) i j
  | .agg l => .agg (l.map (AV.sh0 n))
  | .tup _ => .any
  | a => a
def AV.sh (n : Nat) : AV → AV
  | .own k => .own (k + n)
  | .optr k i => .optr (k + n) i
  | .osub k a b => .osub (k + n) a b
  | .orow k i => .orow (k + n) i
  | .orptr k i j => .orptr (k + n) i j
  | .agg l => .agg (l.map (AV.sh0 n))
  | .tup l => .tup (l.map (AV.sh1 n))
  | a => a
def AO.sh (n : Nat) : AO → AO
  | .bx T avs => .bx T (avs.map (AV.sh n))
  | .slr e avs => .slr e (avs.map (AV.sh n))
  | .keep _ K => .keep 0 ⟨K.snap, []⟩
  | o => o
theorem AO.sh_dead {n : Nat} {o : AO} : o.sh n = .dead ↔ o = .dead := by cases o <;> simp [AO.sh]
theorem AO.sh_live {n : Nat} {o : AO} : (o.sh n).live ↔ o.live := by cases o <;> simp [AO.sh, AO.live]

theorem getD_map_any (f : AV → AV) (hf : f .any = .any) (l : List AV) (i : Nat) : (l.map f).getD i .any = f (l.getD i .any) := by
  simp only [List.getD_eq_getElem?_getD, List.getElem?_map]
  cases l[i]? <;> simp [hf]

section
variable {w : World} {ok ok' : Nat → Prop} {gs0 gs : List Gh}
theorem get_sh {k : Nat} {g : Gh} (h : gs[k]? = some g) : (gs0 ++ gs)[k + gs0.length]? = some g := by
  rw [List.getElem?_append_right (by omega)]; simpa using h
theorem RV.sh0 (k : Keeps ok ok' w w) {v : Value} {a : AV} (hv : RV w ok gs v a) : RV w ok' (gs0 ++ gs) v (a.sh0 gs0.length) := by
  cases hv with
  | any v => exact .any v
  | val v => exact .val v
  | ints h => exact .ints (h.mono k)
  | intss h => exact .intss (h.mono k)
  | @ro v r h => exact .ro (r.up k h)
  | iptr h h1 h2 => exact .iptr (h.mono k) h1 h2
  | iiptr h h1 h2 => exact .iiptr (h.mono k) h1 h2
  | own h1 => exact .own (get_sh h1)
  | optr h1 => exact .optr (get_sh h1)
  | osub h1 h2 h3 h4 => exact .osub (get_sh h1) h2 h3 h4
  | orow h1 h2 => exact .orow (get_sh h1) h2
  | orptr h1 h2 => exact .orptr (get_sh h1) h2
  | agg _ _ _ => exact .any _
  | tup _ _ => exact .any _
theorem RV.sh1 (k : Keeps ok ok' w w) {v : Value} {a : AV} (hv : RV w ok gs v a) : RV w ok' (gs0 ++ gs) v (a.sh1 gs0.length) := by
  cases hv with
  | any v => exact .any v
  | val v => exact .val v
  | ints h => exact .ints (h.mono k)
  | intss h => exact .intss (h.mono k)
  | @ro v r h => exact .ro (r.up k h)
  | iptr h h1 h2 => exact .iptr (h.mono k) h1 h2
  | iiptr h h1 h2 => exact .iiptr (h.mono k) h1 h2
  | own h1 => exact .own (get_sh h1)
  | optr h1 => exact .optr (get_sh h1)
  | osub h1 h2 h3 h4 => exact .osub (get_sh h1) h2 h3 h4
  | orow h1 h2 => exact .orow (get_sh h1) h2
  | orptr h1 h2 => exact .orptr (get_sh h1) h2
  | agg h1 h3 h2 => exact .agg (by simpa using h1) h3 fun i => by rw [getD_map_any _ rfl]; exact (h2 i).sh0 k
  | tup _ _ => exact .any _
theorem RV.sh (k : Keeps ok ok' w w) {v : Value} {a : AV} (hv : RV w ok gs v a) : RV w ok' (gs0 ++ gs) v (a.sh gs0.length) := by
  cases hv with
  | any v => exact .any v
  | val v => exact .val v
  | ints h => exact .ints (h.mono k)
  | intss h => exact .intss (h.mono k)
  | @ro v r h => exact .ro (r.up k h)
  | iptr h h1 h2 => exact .iptr (h.mono k) h1 h2
  | iiptr h h1 h2 => exact .iiptr (h.mono k) h1 h2
  | own h1 => exact .own (get_sh h1)
  | optr h1 => exact .optr (get_sh h1)
  | osub h1 h2 h3 h4 => exact .osub (get_sh h1) h2 h3 h4
  | orow h1 h2 => exact .orow (get_sh h1) h2
  | orptr h1 h2 => exact .orptr (get_sh h1) h2
  | agg h1 h3 h2 => exact .agg (by simpa using h1) h3 fun i => by rw [getD_map_any _ rfl]; exact (h2 i).sh0 k
  | tup h1 h2 => exact .tup (by simpa using h1) fun i => by rw [getD_map_any _ rfl]; exact (h2 i).sh1 k
end

theorem Rel.join {base : Nat} {w w' : World} {gs gs' : List Gh} {env : Env} {os os' : List AO} {tm : Array Value} (h : Rel base w gs env os tm) (hb : Below w.heap.size w w') (n : NewObjs w.heap.size w' gs' os') :
    Rel base w' (gs ++ gs') env (os ++ os'.map (AO.sh gs.length)) tm ∧
      ∀ {v : Value} {r : AV}, RV w' (fun b => w.heap.size ≤ b ∧ okOf gs' os' b) gs' v r → RV w' (okOf (gs ++ gs') (os ++ os'.map (AO.sh gs.length))) (gs ++ gs') v (r.sh gs.length) := by
  have hl := h.hl
  -- where a handle of the joined state comes from
  have part : ∀ {i : Nat} {x : Gh} {y : AO}, (gs ++ gs')[i]? = some x → (os ++ os'.map (AO.sh gs.length))[i]? = some y →
      (i < gs.length ∧ gs[i]? = some x ∧ os[i]? = some y) ∨ (gs.length ≤ i ∧ gs'[i - gs.length]? = some x ∧ ∃ z, os'[i - gs.length]? = some z ∧ y = z.sh gs.length) := by
    intro i x y hx hy
    rw [List.getElem?_append] at hx hy
    split at hx
    · rename_i hi
      rw [if_pos (by omega)] at hy
      exact .inl ⟨hi, hx, hy⟩
    · rename_i hi
      rw [if_neg (by omega), List.getElem?_map, ← hl] at hy
      cases hz : os'[i - gs.length]? with
      | none => rw [hz] at hy; cases hy
      | some z => rw [hz] at hy; simp at hy; exact .inr ⟨by omega, hx, z, rfl, hy.symm⟩
  have hbl_old : ∀ {i : Nat} {x : Gh} {y : AO}, gs[i]? = some x → os[i]? = some y → y ≠ .dead → ∀ b, b ∈ x.bl → b < w.heap.size := fun hx hy hn b hb => (h.hn _ _ _ hx hy hn b hb).2
  have kold : Keeps (okOf gs os) (okOf (gs ++ gs') (os ++ os'.map (AO.sh gs.length))) w w' := by
    intro b hok hlt
    refine ⟨fun i x y hx hy hny hm => ?_, hb.block b hlt⟩
    rcases part hx hy with ⟨_, h1, h2⟩ | ⟨_, h1, z, h2, rfl⟩
    · exact hok i x y h1 h2 hny hm
    · have := (n.hn _ _ _ h1 h2 (AO.sh_live.1 hny).ne b hm).1; omega
  have knew : Keeps (fun b => w.heap.size ≤ b ∧ okOf gs' os' b) (okOf (gs ++ gs') (os ++ os'.map (AO.sh gs.length))) w' w' := by
    intro b hok hlt
    refine ⟨fun i x y hx hy hny hm => ?_, rfl⟩
    rcases part hx hy with ⟨_, h1, h2⟩ | ⟨_, h1, z, h2, rfl⟩
    · have := hbl_old h1 h2 hny.ne b hm; omega
    · exact hok.2 _ x z h1 h2 (AO.sh_live.1 hny) hm
  have gold : ∀ (i : Nat) x, gs[i]? = some x → (gs ++ gs')[i]? = some x := fun i x e => by
    rw [List.getElem?_append_left (List.getElem?_eq_some_iff.1 e).1]; exact e
  refine ⟨⟨Nat.le_trans h.hb hb.size, by simp [hl, n.hl], h.hs, fun i => (h.he i).mono kold gold, ?_, ?_, ?_⟩, fun hv => hv.sh knew⟩
  · intro i x y hx hy
    rcases part hx hy with ⟨_, h1, h2⟩ | ⟨_, h1, z, h2, rfl⟩
    · exact (h.ho i x y h1 h2).mono kold gold fun hny b hm => hb.block b (hbl_old h1 h2 hny b hm)
    · have hz := n.ho _ x z h1 h2
      have hbase : ∀ {e : TypeId} {v : Value} {m : Nat} {xs : List Value}, w'.ownsRow w.heap.size e 1 v m xs → w'.ownsRow base e 1 v m xs := by
        intro e v m xs ho
        refine ⟨ho.1, ho.2.imp id ?_⟩
        rintro ⟨g, cap, cur, e1, e2, r⟩
        exact ⟨g, cap, cur, e1, Nat.le_trans h.hb e2, r⟩
      cases z with
      | dead => trivial
      | ob q => exact q.lower h.hb hz
      | sli e xs => exact ⟨hbase hz.1, hz.2⟩
      | slr e avs =>
        obtain ⟨vs, a1, a2, a3, a4⟩ := hz
        exact ⟨vs, hbase a1, by simpa using a2, fun j => by rw [getD_map_any _ rfl]; exact (a3 j).sh knew, a4⟩
      | sls e e2 xss =>
        obtain ⟨vs, bs, mb, a1, a2, a3, a4, a5, a6⟩ := hz
        exact ⟨vs, bs, mb, hbase a1, a2, a3, a4, fun i u hu => ⟨hbase (a5 i u hu).1, (a5 i u hu).2⟩, a6⟩
      | bx T avs =>
        obtain ⟨cs, a1, a2, a3, a4, a5, a6, a7⟩ := hz
        exact ⟨cs, a1, Nat.le_trans h.hb a2, a3, a4, by simpa using a5, a6, fun j => by rw [getD_map_any _ rfl]; exact (a7 j).sh knew⟩
      | keep m K => exact ⟨hz.1, rfl, fun i x hx => by simp at hx⟩
  · intro i j g1 g2 o1 o2 hij hg1 hg2 ho1 ho2 hn1 hn2 b hb1 hb2
    rcases part hg1 ho1 with ⟨_, a1, a2⟩ | ⟨ai, a1, z1, a2, rfl⟩
    · rcases part hg2 ho2 with ⟨_, b1, b2⟩ | ⟨_, b1, z2, b2, rfl⟩
      · exact h.hd i j g1 g2 o1 o2 hij a1 b1 a2 b2 hn1 hn2 b hb1 hb2
      · have := hbl_old a1 a2 hn1 b hb1
        have := (n.hn _ _ _ b1 b2 (fun e => hn2 (AO.sh_dead.2 e)) b hb2).1; omega
    · rcases part hg2 ho2 with ⟨_, b1, b2⟩ | ⟨bj, b1, z2, b2, rfl⟩
      · have := hbl_old b1 b2 hn2 b hb2
        have := (n.hn _ _ _ a1 a2 (fun e => hn1 (AO.sh_dead.2 e)) b hb1).1; omega
      · exact n.hd _ _ g1 g2 z1 z2 (by omega) a1 b1 a2 b2 (fun e => hn1 (AO.sh_dead.2 e)) (fun e => hn2 (AO.sh_dead.2 e)) b hb1 hb2
  · intro i x y hx hy hny b hm
    rcases part hx hy with ⟨_, h1, h2⟩ | ⟨_, h1, z, h2, rfl⟩
    · have := h.hn i x y h1 h2 hny b hm
      exact ⟨this.1, Nat.lt_of_lt_of_le this.2 hb.size⟩
    · have := n.hn _ x z h1 h2 (fun e => hny (AO.sh_dead.2 e)) b hm
      exact ⟨Nat.le_trans h.hb this.1, this.2⟩

section
variable {P : Program} {env : Env} {os : List AO} {d : Option Tmp} {ty : TypeId} {pos : String} {af : Array Edge} {g : Option (Nat × Bool)}
theorem c_call {f : FuncId} {args : List AV} {Q : AV → List AO → Prop} (hc : AFn P f args Q) {xs : List Operand} {ats : Array TypeId} (hi : Imms os (xs.map (AV.ev env)) args) :
    COp P ⟨d, .call { callee := .value (.func f), args := xs.toArray, argTypes := ats }, ty, pos, af, g⟩ env os (fun r e o => ∃ r0 os0, Q r0 os0 ∧ r = r0.sh os.length ∧ e = env ∧ o = os ++ os0.map (AO.sh os.length)) := by
  intro base w gs tm hr
  refine ⟨f, _, run_call hc.1 xs ats _ rfl w, (hc.2 w _ (hi.rvs hr)).mono ?_⟩
  rintro e w' ⟨v, r, os', gs', rfl, hq, hb, hn, hv⟩
  have j := hr.join hb hn
  rw [hr.hl] at j
  exact ⟨v, _, _, _, _, rfl, ⟨r, os', hq, rfl, rfl, rfl⟩, j.1, j.2 hv, hb.mono hr.hb⟩
end

end Go.Proofs.Ytcolpjpppdmanaa
/-
  From a row's readings of the arguments to abstract arguments. No condition.
-/
namespace Go.Proofs.Ytcolpjpppdmanaa
open Go Go.RowKit Go.ChangeShapes Go.WideShapes Go.Deep

section
variable {H : Type} {enc : TypeId × Value → H} {P : Program} {w : World} {base : Nat} {held : Bool}

/-! ### Whole arguments -/

theorem rvs1 {v0 : Value} {a0 : AV} (h0 : RV w (fun _ => True) [] v0 a0) : RVs w [a0] #[v0] := by
  refine ⟨rfl, fun i => ?_⟩
  match i with
  | 0 => exact h0
  | n + 1 => exact .any _
theorem trod_places {t : TypeId} {v : Value} {d : DataW H} {ps : List MemPlace} {spare : Nat → Bool} (h : DataW.Trod enc P w base spare held t v d ps) : ∀ x ∈ ps, x.block < w.heap.size := by
  obtain ⟨fuel, hf⟩ := h
  exact DataW.trod_lt _ _ _ _ hf
end
end Go.Proofs.Ytcolpjpppdmanaa
/-
  The operations of the abstract machine that make or write memory. No condition.
-/
namespace Go.Proofs.Ytcolpjpppdmanaa
open Go Go.RowKit

section
variable {P : Program} {env : Env} {os : List AO} {d : Option Tmp} {ty : TypeId} {pos : String} {af : Array Edge} {g : Option (Nat × Bool)}

theorem below_alloc (w : World) (o : Obj) : Below w.heap.size w (w.alloc o) := (Below.refl _ _).alloc (Nat.le_refl _) o

theorem len_new {gs : List Gh} {g : Gh} : (gs ++ [g])[gs.length]? = some g := by simp

/-- A new block of cells. -/
theorem l_block {o : Oper} {T : TypeId} {avs : List AV}
    (hrun : ∀ base w gs tm, Rel base w gs env os tm → ∃ cs : List Value, (execOp (Act.eval ⟨tm, []⟩) o).run P w = .ok (.value (.pointer (some ⟨w.heap.size, 0, none⟩))) (w.alloc (.cells cs.toArray T)) ∧
      cs.length = avs.length ∧ (∀ c ∈ cs, c.oneCell' = true) ∧ ∀ i : Nat, RV w (okOf gs os) gs (cs.getD i undef) (avs.getD i .any)) :
    LOp P o env os (.optr os.length 0) env (os ++ [.bx T avs]) := by
  intro base w gs tm hr
  obtain ⟨cs, h1, h2, h3, h4⟩ := hrun base w gs tm hr
  have hbel := below_alloc w (.cells cs.toArray T)
  have hlt : w.heap.size < (w.alloc (.cells cs.toArray T)).heap.size := by simp
  have hno : AO.bx T avs ≠ .dead → ∀ b, b ∈ [w.heap.size] → w.heap.size ≤ b ∧ b < (w.alloc (.cells cs.toArray T)).heap.size := fun _ b hb => by simp at hb; omega
  have kp := keeps_new (g := ⟨.pointer (some ⟨w.heap.size, 0, none⟩), w.heap.size, [w.heap.size], []⟩) (o := .bx T avs) hr.hl hbel hno
  have hgs : ∀ (i : Nat) g', gs[i]? = some g' → (gs ++ [⟨.pointer (some ⟨w.heap.size, 0, none⟩), w.heap.size, [w.heap.size], []⟩])[i]? = some g' := fun i g' e => by
    rw [List.getElem?_append_left (List.getElem?_eq_some_iff.1 e).1]; exact e
  refine ⟨_, _, gs ++ [⟨.pointer (some ⟨w.heap.size, 0, none⟩), w.heap.size, [w.heap.size], []⟩], .inl h1, hr.new hbel _ _ hno ?_, ?_, hbel.mono hr.hb⟩
  · exact ⟨cs, heap_alloc_new w _, hr.hb, rfl, rfl, h2, h3, fun i => (h4 i).mono kp hgs⟩
  · have := RV.optr (w := w.alloc (.cells cs.toArray T)) (ok := okOf (gs ++ [⟨.pointer (some ⟨w.heap.size, 0, none⟩), w.heap.size, [w.heap.size], []⟩]) (os ++ [.bx T avs])) (i := 0) (len_new (gs := gs) (g := ⟨.pointer (some ⟨w.heap.size, 0, none⟩), w.heap.size, [w.heap.size], []⟩))
    rw [hr.hl] at this
    exact this

theorem l_box_agg {T : TypeId} {x : Operand} {avs : List AV} (hx : AV.ev env x = .agg avs) : LOp P ⟨d, .box T x, ty, pos, af, g⟩ env os (.optr os.length 0) env (os ++ [.bx T avs]) := by
  refine l_block fun base w gs tm hr => ?_
  have h := hr.ev x
  rw [hx] at h
  generalize hv : Act.eval ⟨tm, []⟩ x = v at h
  cases h with
  | agg a1 a2 a3 => exact ⟨_, by simp [execOp, hv, Instr.box, newVar, newRow, Value.cells], a1, a2, a3⟩

theorem l_alloc_str {T : TypeId} {n : Nat} {zs : List Value} [ht : TStruct P T n zs] (h1 : ∀ z ∈ zs, z.oneCell' = true) : LOp P ⟨d, .alloc T, ty, pos, af, g⟩ env os (.optr os.length 0) env (os ++ [.bx T (zs.map AV.val)]) := by
  refine l_block fun base w gs tm hr => ?_
  obtain ⟨ii, hi, hs, hz, hl⟩ := ht.info
  refine ⟨zs, by simp [execOp, Instr.alloc, zeroValue, typeInfo, hi, hz, newVar, newRow, Value.cells], by simp, h1, fun i => ?_⟩
  simp only [List.getD_eq_getElem?_getD, List.getElem?_map]
  cases zs[i]? with
  | none => exact .any _
  | some z => exact .val _

theorem l_alloc_one {T : TypeId} {z : Value} {bytes : Nat} [ht : TElem P T z bytes] (h1 : z.oneCell' = true) (hc : z.cells = #[z]) : LOp P ⟨d, .alloc T, ty, pos, af, g⟩ env os (.optr os.length 0) env (os ++ [.bx T [.val z]]) := by
  refine l_block fun base w gs tm hr => ?_
  obtain ⟨ii, hi, hs, hz, _⟩ := ht.info
  refine ⟨[z], by simp [execOp, Instr.alloc, zeroValue, typeInfo, hi, hz, newVar, newRow, hc], rfl, by simpa using h1, fun i => ?_⟩
  match i with
  | 0 => exact .val _
  | i + 1 => exact .any _

/-! ### New slices -/
theorem l_new {o : Oper} {obj : AO}
    (h : ∀ base w gs tm, Rel base w gs env os tm → ∃ w' gh, (execOp (Act.eval ⟨tm, []⟩) o).run P w = .ok (.value gh.v) w' ∧ Below w.heap.size w w' ∧ (∀ b, b ∈ gh.bl → w.heap.size ≤ b ∧ b < w'.heap.size) ∧ ∀ ok gs', RO base w' ok gs' gh obj) :
    LOp P o env os (.own os.length) env (os ++ [obj]) := by
  intro base w gs tm hr
  obtain ⟨w', gh, h1, h2, h3, h4⟩ := h base w gs tm hr
  refine ⟨gh.v, w', gs ++ [gh], .inl h1, hr.new h2 obj gh (fun _ => h3) (h4 _ _), ?_, h2.mono hr.hb⟩
  have := RV.own (w := w') (ok := okOf (gs ++ [gh]) (os ++ [obj])) (len_new (gs := gs) (g := gh))
  rw [hr.hl] at this
  exact this

theorem l_make_int {t e : TypeId} {bytes : Nat} [ht : TSlice P t e] [he : TElem P e (.int .i64 0) bytes] {x y : Operand} {n : Int} (hx : AV.ev env x = .i n) (hy : AV.ev env y = .i n) (h0 : 0 ≤ n) (hb : (bytes : Int) * n ≤ 281474976710656) (hm : n ≤ 9223372036854775807) :
    LOp P ⟨d, .makeSlice t x y, ty, pos, af, g⟩ env os (.own os.length) env (os ++ [.sli e (List.replicate n.toNat 0)]) := by
  refine l_new fun base w gs tm hr => ?_
  obtain ⟨ii, hi, hs, hz, hby⟩ := he.info
  obtain ⟨m, rfl⟩ := Int.eq_ofNat_of_zero_le h0
  have hb' : ii.bytes * m ≤ 281474976710656 := by
    have : ((bytes * m : Nat) : Int) ≤ 281474976710656 := by rw [Int.natCast_mul]; exact hb
    rw [hby]; omega
  obtain ⟨w', h1, h2, h3⟩ := run_make_full (P := P) w base t e ii _ 1 ht.und hi hz hs .i64 .i64 m hb' (by simp [maxLen]; omega) hr.hb
  have hbel : Below w.heap.size w w' := (Below.refl _ _).grown h3 (Nat.le_refl _) (fun k hk => by cases hk)
  have hlt := h2.lt w.heap.size rfl
  refine ⟨w', ⟨.slice (some ⟨w.heap.size, 0, none⟩) m m, w.heap.size, [w.heap.size], []⟩, by simp only [execOp, hr.evv hx, hr.evv hy, Sem.run_bind, h1, Result.andThen_ok, Sem.run_pure], hbel,
    fun b hb => by simp at hb; omega, fun ok gs' => ⟨?_, fun x hx => by rw [List.eq_of_mem_replicate hx]; unfold inI; omega, .inr ⟨rfl, rfl⟩⟩⟩
  rw [show (Value.int IntKind.i64 0).cells = #[.int .i64 0] from rfl, toList_madeCells_one] at h2
  simpa using h2

theorem l_make_rows {t e : TypeId} {bytes : Nat} [ht : TSlice P t e] [he : TElem P e (.slice none 0 0) bytes] (e2 : TypeId) {x y : Operand} {n : Int} (hx : AV.ev env x = .i n) (hy : AV.ev env y = .i n) (h0 : 0 ≤ n) (hb : (bytes : Int) * n ≤ 281474976710656) (hm : n ≤ 9223372036854775807) :
    LOp P ⟨d, .makeSlice t x y, ty, pos, af, g⟩ env os (.own os.length) env (os ++ [.sls e e2 (List.replicate n.toNat [])]) := by
  refine l_new fun base w gs tm hr => ?_
  obtain ⟨ii, hi, hs, hz, hby⟩ := he.info
  obtain ⟨m, rfl⟩ := Int.eq_ofNat_of_zero_le h0
  have hb' : ii.bytes * m ≤ 281474976710656 := by
    have : ((bytes * m : Nat) : Int) ≤ 281474976710656 := by rw [Int.natCast_mul]; exact hb
    rw [hby]; omega
  obtain ⟨w', h1, h2, h3⟩ := run_make_full (P := P) w base t e ii _ 1 ht.und hi hz hs .i64 .i64 m hb' (by simp [maxLen]; omega) hr.hb
  have hbel : Below w.heap.size w w' := (Below.refl _ _).grown h3 (Nat.le_refl _) (fun k hk => by cases hk)
  have hlt := h2.lt w.heap.size rfl
  rw [show (Value.slice none 0 0).cells = #[.slice none 0 0] from rfl, toList_madeCells_one] at h2
  refine ⟨w', ⟨.slice (some ⟨w.heap.size, 0, none⟩) m m, w.heap.size, [w.heap.size], List.replicate m (.slice none 0 0)⟩, by simp only [execOp, hr.evv hx, hr.evv hy, Sem.run_bind, h1, Result.andThen_ok, Sem.run_pure], hbel,
    fun b hb => by simp at hb; omega, fun ok gs' => ⟨List.replicate m (.slice none 0 0), List.replicate m [], [w.heap.size], by simpa using h2, by simp, by simp, rfl, fun i u hu => ?_, .inr ⟨rfl, rfl⟩, by simp, by simp⟩⟩
  have hu' : u = .slice none 0 0 := List.eq_of_mem_replicate (List.mem_of_getElem? hu)
  have e0 : (List.replicate m ([] : List Int)).getD i [] = [] := by simp [List.getD_eq_getElem?_getD, List.getElem?_replicate]; split <;> rfl
  have e1 : (List.replicate m ([] : List Nat)).getD i [] = [] := by simp [List.getD_eq_getElem?_getD, List.getElem?_replicate]; split <;> rfl
  subst hu'
  rw [Int.toNat_natCast, e0, e1]
  exact ⟨World.ownsRow_nil _ _ _ _, fun x hx => (by cases hx), rfl⟩

/-! ### Stores -/
theorem run_store_cell {t : TypeId} [ht : TCell P t] {a : Addr} {u v : Value} {w : World} (hc : w.cell? a = some u) (hf : w.frozen? a = false) (h1 : v.oneCell' = true) (hv : v.cells = #[v]) :
    (Instr.storeAt t (.pointer (some a)) v).run P w = .ok () (w.setCell a v) := by
  obtain ⟨ii, hi, hs⟩ := ht.info
  have hst := run_store P w a v .plain h1
  simp only [hc, hf] at hst
  simp only [Instr.storeAt, Instr.sureAddr, storeVar, sizeOf, typeInfo, hi, hs, hv, storeCells, Sem.run_bind, Sem.run_pure, Result.andThen_ok, run_program, Addr.add_zero', Sem.run_ite]
  simp [hst]

theorem l_store_sli {t : TypeId} [ht : TCell P t] {x y : Operand} {h i : Nat} {e : TypeId} {xs : List Int} {n : Int} (hx : AV.ev env x = .optr h i) (hs : os[h]? = some (.sli e xs)) (hi : i < xs.length) (hy : AV.ev env y = .i n) (hn : inI n) :
    LOp P ⟨d, .store t x y, ty, pos, af, g⟩ env os .any env (os.set h (.sli e (xs.set i n))) := by
  intro base w gs tm hr
  have hh := hr.ev x
  rw [hx] at hh
  generalize hv : Act.eval ⟨tm, []⟩ x = v at hh
  cases hh with
  | @optr _ _ gh hg =>
    obtain ⟨a1, a2, a3⟩ := hr.ho _ _ _ hg hs
    obtain ⟨b, cap, e1, e2, e3, e4⟩ := own_slice a1 (i := i) (by simpa using hi)
    have eb := a3.eq e2
    rw [e1] at a1
    have hst := a1.stored i (.int .i64 n)
    have hcell : w.cell? ⟨gh.b, i, none⟩ = some (.int .i64 (xs.getD i 0)) := by rw [eb, e3]; simp [hi]
    have hbl : gh.bl = [gh.b] := by
      rcases a3 with ⟨h1, _⟩ | ⟨_, h2⟩
      · rw [h1] at e2; cases e2
      · exact h2
    have hother : ∀ c, c < w.heap.size → c ∉ gh.bl → (w.setCell ⟨b, i, none⟩ (.int .i64 n)).heap[c]? = w.heap[c]? := fun c hc hcb => hst.2.block c hc (fun e' => hcb (by rw [hbl, eb]; simpa using e'))
    refine ⟨undef, w.setCell ⟨b, i, none⟩ (.int .i64 n), gs, .inr ⟨?_, rfl⟩, hr.upd hg hs trivial _ trivial hother hst.2.size fun _ => ?_, .any _, ?_⟩
    · have := run_store_cell (P := P) (t := t) (a := ⟨gh.b, i, none⟩) hcell (by rw [eb]; exact e4) (v := .int .i64 n) rfl rfl
      rw [eb] at this hv
      simp only [execOp, hv, hr.evv hy, Sem.run_bind, this, Result.andThen_ok, Sem.run_pure]
    · refine ⟨?_, fun x hx => ?_, a3⟩
      · rw [e1]
        have := hst.1
        rw [List.length_set]
        simpa [List.map_set] using this
      · rcases List.mem_or_eq_of_mem_set hx with h1 | rfl
        · exact a2 x h1
        · exact hn
    · have hbb : base ≤ b := by rw [← eb]; exact (hr.hn _ _ _ hg hs (by simp) gh.b (by simp [hbl])).1
      exact (Below.refl _ _).setCell (p := ⟨b, i, none⟩) hbb _

/-- A value of one cell goes into a cell of a variable. -/
theorem l_store_bx {t : TypeId} [ht : TCell P t] {x y : Operand} {h i : Nat} {T : TypeId} {avs : List AV} {a : AV} (hx : AV.ev env x = .optr h i) (hs : os[h]? = some (.bx T avs)) (hi : i < avs.length) (hy : AV.ev env y = a)
    (h1 : ∀ base w gs tm, Rel base w gs env os tm → ∀ v, RV w (okOf gs os) gs v a → v.oneCell' = true ∧ v.cells = #[v]) :
    LOp P ⟨d, .store t x y, ty, pos, af, g⟩ env os .any env (os.set h (.bx T (avs.set i a))) := by
  intro base w gs tm hr
  have hh := hr.ev x
  have hyv := hr.ev y
  rw [hx] at hh
  rw [hy] at hyv
  generalize hv : Act.eval ⟨tm, []⟩ x = v at hh
  generalize hu : Act.eval ⟨tm, []⟩ y = u at hyv
  obtain ⟨o1, o2⟩ := h1 base w gs tm hr u hyv
  cases hh with
  | @optr _ _ gh hg =>
    obtain ⟨cs, a1, a2, a3, a4, a5, a6, a7⟩ := hr.ho _ _ _ hg hs
    have hic : i < cs.length := by omega
    have hcell : w.cell? ⟨gh.b, i, none⟩ = some cs[i] := by rw [cell_of_row w _ i _ T (0, 0) a1]; simp [hic]
    have hother : ∀ c, c < w.heap.size → c ∉ gh.bl → (w.setCell ⟨gh.b, i, none⟩ u).heap[c]? = w.heap[c]? := fun c hc hcb => heap_setCell_other w ⟨gh.b, i, none⟩ c u (fun e' => hcb (by rw [a3]; simpa using e'))
    refine ⟨undef, w.setCell ⟨gh.b, i, none⟩ u, gs, .inr ⟨?_, rfl⟩, hr.upd hg hs trivial _ trivial hother (by simp) fun kp => ?_, .any _, (Below.refl _ _).setCell (p := ⟨gh.b, i, none⟩) a2 _⟩
    · have := run_store_cell (P := P) (t := t) (a := ⟨gh.b, i, none⟩) hcell (frozen_of_row w _ i _ T a1) (v := u) o1 o2
      simp only [execOp, hv, hu, Sem.run_bind, this, Result.andThen_ok, Sem.run_pure]
    · refine ⟨cs.set i u, ?_, a2, a3, a4, by simpa using a5, fun c hc => ?_, fun j => ?_⟩
      · rw [heap_setCell_same w gh.b i cs.toArray T u a1]; simp
      · rcases List.mem_or_eq_of_mem_set hc with h1 | rfl
        · exact a6 c h1
        · exact o1
      · have e1 : (cs.set i u).getD j undef = if j = i then u else cs.getD j undef := by
          simp only [List.getD_eq_getElem?_getD, List.getElem?_set]
          by_cases e : i = j
          · subst e; simp [hic]
          · have e' : ¬ j = i := fun h => e h.symm
            simp [e, e']
        have e2 : (avs.set i a).getD j .any = if j = i then a else avs.getD j .any := by
          rw [getD_set]; simp [hi]
        rw [e1, e2]
        split
        · exact hyv.mono kp (fun _ _ e => e)
        · exact (a7 j).mono kp (fun _ _ e => e)

theorem one_val {v : Value} (h1 : v.oneCell' = true) (h2 : v.cells = #[v]) : ∀ base w gs tm, Rel base w gs env os tm → ∀ u, RV w (okOf gs os) gs u (.val v) → u.oneCell' = true ∧ u.cells = #[u] := by
  intro base w gs tm hr u hu
  cases hu
  exact ⟨h1, h2⟩
theorem one_ints {xs : List Int} : ∀ base w gs tm, Rel base w gs env os tm → ∀ u, RV w (okOf gs os) gs u (.ints xs) → u.oneCell' = true ∧ u.cells = #[u] := by
  intro base w gs tm hr u hu
  cases hu with | ints h => obtain ⟨⟨a, cap, rfl, _⟩, _⟩ := h; exact ⟨rfl, rfl⟩
theorem one_intss {xss : List (List Int)} : ∀ base w gs tm, Rel base w gs env os tm → ∀ u, RV w (okOf gs os) gs u (.intss xss) → u.oneCell' = true ∧ u.cells = #[u] := by
  intro base w gs tm hr u hu
  cases hu with | intss h => obtain ⟨vs, ⟨a, cap, rfl, _⟩, _⟩ := h; exact ⟨rfl, rfl⟩
theorem one_own {h : Nat} {o : AO} (hs : os[h]? = some o) (hn : o.live) : ∀ base w gs tm, Rel base w gs env os tm → ∀ u, RV w (okOf gs os) gs u (.own h) → u.oneCell' = true ∧ u.cells = #[u] := by
  intro base w gs tm hr u hu
  cases hu with
  | own hg =>
    have ho := hr.ho _ _ _ hg hs
    cases o with
    | dead => exact hn.elim
    | keep n K => exact hn.elim
    | ob q => exact q.one ho
    | sli e xs => obtain ⟨a, cap, e1⟩ := ownsRow_slice ho.1; rw [e1]; exact ⟨rfl, rfl⟩
    | slr e xss => obtain ⟨vs, h1, _⟩ := ho; obtain ⟨a, cap, e1⟩ := ownsRow_slice h1; rw [e1]; exact ⟨rfl, rfl⟩
    | sls e e2 xss => obtain ⟨vs, bs, mb, h1, _⟩ := ho; obtain ⟨a, cap, e1⟩ := ownsRow_slice h1; rw [e1]; exact ⟨rfl, rfl⟩
    | bx T avs => obtain ⟨cs, h1, h2, h3, h4, _⟩ := ho; rw [h4]; exact ⟨rfl, rfl⟩

/-- A whole struct goes into its variable. -/
theorem l_store_str {t : TypeId} {n : Nat} {zs : List Value} [ht : TStruct P t n zs] {x y : Operand} {h : Nat} {T : TypeId} {avs l : List AV} (hx : AV.ev env x = .optr h 0) (hs : os[h]? = some (.bx T avs)) (hn : avs.length = n) (hy : AV.ev env y = .agg l) (hl : l.length = n) :
    LOp P ⟨d, .store t x y, ty, pos, af, g⟩ env os .any env (os.set h (.bx T l)) := by
  intro base w gs tm hr
  have hh := hr.ev x
  have hyv := hr.ev y
  rw [hx] at hh
  rw [hy] at hyv
  generalize hv : Act.eval ⟨tm, []⟩ x = v at hh
  generalize hu : Act.eval ⟨tm, []⟩ y = u at hyv
  cases hh with
  | @optr _ _ gh hg =>
    obtain ⟨cs, a1, a2, a3, a4, a5, a6, a7⟩ := hr.ho _ _ _ hg hs
    cases hyv with
    | @agg vs _ b1 b2 b3 =>
      obtain ⟨ii, hi, hsz, _⟩ := ht.info
      have hrun := run_storeVar_row (P := P) w gh.b T t cs.toArray vs.toArray a1 (by rw [hi]; simp [hsz, b1, hl]) (by simp; omega) (by simpa [Array.all_eq_true] using b2)
      have hset := setRow_heap w gh.b cs.toArray vs.toArray T (0, 0) a1
      have hother : ∀ c, c < w.heap.size → c ∉ gh.bl → (w.setRow gh.b vs.toArray).heap[c]? = w.heap[c]? := fun c hc hcb => setRow_other w gh.b c _ (fun e' => hcb (by rw [a3]; simpa using e'))
      refine ⟨undef, w.setRow gh.b vs.toArray, gs, .inr ⟨?_, rfl⟩, hr.upd hg hs trivial _ trivial hother (by simp) fun kp => ?_, .any _, below_setRow (Below.refl _ _) a2 _⟩
      · simp only [execOp, hv, hu, Instr.storeAt, Instr.sureAddr, Sem.run_bind, Sem.run_pure, Result.andThen_ok, hrun]
      · exact ⟨vs, hset, a2, a3, a4, b1, b2, fun j => (b3 j).mono kp (fun _ _ e => e)⟩
end

end Go.Proofs.Ytcolpjpppdmanaa
/-
  The operations of the abstract machine that lay new slices, append to them, or take parts of them. No condition.
-/
namespace Go.Proofs.Ytcolpjpppdmanaa
open Go Go.RowKit

section
variable {P : Program} {env : Env} {os : List AO} {d : Option Tmp} {ty : TypeId} {pos : String} {af : Array Edge} {g : Option (Nat × Bool)} {wl : Bool}

/-- A new slice whose cells are all given. -/
theorem l_laid {o : Oper} {e : TypeId} {zs : List Int} (hin : ∀ z ∈ zs, inI z) (hm : zs.length ≤ maxLen)
    (hrun : ∀ base w gs tm, Rel base w gs env os tm → (execOp (Act.eval ⟨tm, []⟩) o).run P w = .ok (.value (.slice (some ⟨w.heap.size, 0, none⟩) zs.length zs.length)) (w.alloc (.cells (zs.map (Value.int .i64)).toArray e))) :
    LOp P o env os (.own os.length) env (os ++ [.sli e zs]) := by
  refine l_new fun base w gs tm hr => ?_
  refine ⟨_, ⟨.slice (some ⟨w.heap.size, 0, none⟩) zs.length zs.length, w.heap.size, [w.heap.size], []⟩, hrun base w gs tm hr, below_alloc w _, fun b hb => by simp at hb; simp [hb], fun ok gs' => ?_⟩
  refine ⟨⟨by simp, .inr ⟨w.heap.size, zs.length, _, rfl, hr.hb, heap_alloc_new w _, Nat.le_refl _, hm, by simp, by rw [List.take_of_length_le (by simp)]⟩⟩, hin, .inr ⟨rfl, rfl⟩⟩

theorem ar0 : Array.range 0 = #[] := by apply Array.ext'; simp
theorem ar1 : Array.range 1 = #[0] := by apply Array.ext'; simp [List.range_succ]
theorem ar2 : Array.range 2 = #[0, 1] := by apply Array.ext'; simp [List.range_succ]
theorem ar3 : Array.range 3 = #[0, 1, 2] := by apply Array.ext'; simp [List.range_succ]
theorem l_bs0 {t e : TypeId} {bytes : Nat} [ht : TSlice P t e] [he : TElem P e (.int .i64 0) bytes] : LOp P ⟨d, .buildSlice t 0 #[], ty, pos, af, g⟩ env os (.own os.length) env (os ++ [.sli e []]) := by
  refine l_laid (zs := []) (by simp) (by simp [maxLen]) fun base w gs tm hr => ?_
  obtain ⟨ii, hi, hs, hz, hby⟩ := he.info
  simp [execOp, Instr.buildSlice, run_underlying ht.und, sizeOf, typeInfo, hi, Instr.fill, newRow, ar0]
theorem l_bs1 {t e : TypeId} {bytes : Nat} [ht : TSlice P t e] [he : TElem P e (.int .i64 0) bytes] {x : Operand} {a : Int} (hx : AV.ev env x = .i a) (ha : inI a) :
    LOp P ⟨d, .buildSlice t 1 #[(0, x)], ty, pos, af, g⟩ env os (.own os.length) env (os ++ [.sli e [a]]) := by
  refine l_laid (zs := [a]) (by simpa using ha) (by simp [maxLen]) fun base w gs tm hr => ?_
  obtain ⟨ii, hi, hs, hz, hby⟩ := he.info
  simp [execOp, Instr.buildSlice, run_underlying ht.und, sizeOf, typeInfo, zeroValue, hi, hs, hz, Instr.fill, newRow, hr.evv hx, Value.cells, ar1]
theorem l_bs2 {t e : TypeId} {bytes : Nat} [ht : TSlice P t e] [he : TElem P e (.int .i64 0) bytes] {x y : Operand} {a b : Int} (hx : AV.ev env x = .i a) (hy : AV.ev env y = .i b) (ha : inI a) (hb : inI b) :
    LOp P ⟨d, .buildSlice t 2 #[(0, x), (1, y)], ty, pos, af, g⟩ env os (.own os.length) env (os ++ [.sli e [a, b]]) := by
  refine l_laid (zs := [a, b]) (by simp; exact ⟨ha, hb⟩) (by simp [maxLen]) fun base w gs tm hr => ?_
  obtain ⟨ii, hi, hs, hz, hby⟩ := he.info
  simp [execOp, Instr.buildSlice, run_underlying ht.und, sizeOf, typeInfo, zeroValue, hi, hs, hz, Instr.fill, newRow, hr.evv hx, hr.evv hy, Value.cells, ar2]
theorem l_bs3 {t e : TypeId} {bytes : Nat} [ht : TSlice P t e] [he : TElem P e (.int .i64 0) bytes] {x y z : Operand} {a b c : Int} (hx : AV.ev env x = .i a) (hy : AV.ev env y = .i b) (hz' : AV.ev env z = .i c) (ha : inI a) (hb : inI b) (hc : inI c) :
    LOp P ⟨d, .buildSlice t 3 #[(0, x), (1, y), (2, z)], ty, pos, af, g⟩ env os (.own os.length) env (os ++ [.sli e [a, b, c]]) := by
  refine l_laid (zs := [a, b, c]) (by simp; exact ⟨ha, hb, hc⟩) (by simp [maxLen]) fun base w gs tm hr => ?_
  obtain ⟨ii, hi, hs, hz, hby⟩ := he.info
  simp [execOp, Instr.buildSlice, run_underlying ht.und, sizeOf, typeInfo, zeroValue, hi, hs, hz, Instr.fill, newRow, hr.evv hx, hr.evv hy, hr.evv hz', Value.cells, ar3]

/-! ### append -/
theorem run_append_none {t ty' e : TypeId} {i : TypeInfo} (ht : P.underlying t = some (.slice e)) (hi : P.info? e = some i) {base : Nat} {w : World} {v : Value} {n : Nat} {xs : List Value} (h : w.ownsRow base e 1 v n xs) (a : Option Addr) (c : Nat) :
    (Builtin.append_ #[t, t] ty' #[v, .slice a 0 c]).run P w = .ok v w := by
  rcases h.2 with ⟨rfl, rfl⟩ | ⟨g, cap, cur, rfl, hb, hg, hnc, hcm, hcs, htake⟩
  · simp [Builtin.append_, run_underlying ht, sizeOf, typeInfo, hi, Builtin.lenOf, Builtin.firstCells, loadCells, loadCellsFrom]
    try (cases a <;> simp)
  · cases a <;> simp [Builtin.append_, run_underlying ht, sizeOf, typeInfo, hi, Builtin.lenOf, Builtin.firstCells, loadCells, loadCellsFrom, hnc, storeCells]

theorem l_append {t e : TypeId} {bytes : Nat} [ht : TSlice P t e] [he : TElem P e (.int .i64 0) bytes] {x y : Operand} {h : Nat} {e' : TypeId} {xs ys : List Int} (hx : AV.ev env x = .own h) (hs : os[h]? = some (.sli e' xs)) (hee : e' = e)
    (hy : Imm os (AV.ev env y) (.ints ys)) (hb : (xs.length + ys.length) * bytes ≤ 140737488355328) :
    LOp P ⟨d, .call { callee := .builtin .append, args := #[x, y], argTypes := #[t, t] }, ty, pos, af, g⟩ env os (.own h) (env.mp (AV.kill h)) ((os.map (AO.kill h)).set h (.sli e (xs ++ ys))) := by
  subst hee
  intro base w gs tm hr
  have hxv := hr.ev x
  rw [hx] at hxv
  have hyv := hy.rv hr (hr.ev y)
  generalize hv : Act.eval ⟨tm, []⟩ x = v at hxv
  generalize hu : Act.eval ⟨tm, []⟩ y = u at hyv
  cases hxv with
  | @own _ gh hg =>
  cases hyv with
  | ints hys =>
    obtain ⟨⟨ad, cap, rfl, hcap, hcm, hcells⟩, hyin⟩ := hys
    obtain ⟨a1, a2, a3⟩ := hr.ho _ _ _ hg hs
    obtain ⟨ii, hi, hsz, hz, hby⟩ := he.info
    have hbase : base ≤ w.heap.size := hr.hb
    have hbase' : base ≤ w.heap.size := hr.hb
    -- the call, and what it leaves
    have key : ∃ v' w', (Builtin.append_ #[t, t] ty #[gh.v, .slice ad (ys.map (Value.int .i64)).length cap]).run P w = .ok v' w' ∧ w'.ownsRow base e' 1 v' (xs.length + ys.length) ((xs ++ ys).map (Value.int .i64)) ∧ w.grownBy w' gh.v.ownBlock ∧
        (v'.ownBlock = gh.v.ownBlock ∨ v'.ownBlock = some w.heap.size) := by
      by_cases h0 : ys = []
      · subst h0
        exact ⟨gh.v, w, run_append_none ht.und hi a1 ad cap, by simpa using a1, ⟨rfl, rfl, rfl, Nat.le_refl _, fun _ _ _ => rfl⟩, .inl rfl⟩
      · have hp : 0 < ys.length := List.length_pos_iff.2 h0
        obtain ⟨b, off, rfl, _, hc⟩ := hcells (by simpa using hp)
        have h64 : xs.length + ys.length ≤ maxLen := by
          rcases Nat.eq_zero_or_pos bytes with hb0 | hb0
          · have hx' := a1.2
            have hxl : xs.length ≤ maxLen - ys.length ∨ True := .inr trivial
            exact absurd hb0 (by have := he.pos; omega)
          · have : xs.length + ys.length ≤ (xs.length + ys.length) * bytes := Nat.le_mul_of_pos_right _ hb0
            simp only [maxLen]; omega
        obtain ⟨v', w', r1, r2, r3, _, r5⟩ := run_append_own_at (P := P) w base t ty e' ii _ 1 bytes ht.und hi hz hsz hby rfl (by omega) gh.v xs.length (xs.map (Value.int .i64)) a1 ⟨b, off, none⟩ ys.length cap (ys.map (Value.int .i64)) (by simp)
          (fun j u hj => by rw [add_none]; exact hc j u hj) (fun u hu => by obtain ⟨_, _, rfl⟩ := List.mem_map.1 hu; rfl) h64 hb hbase
        exact ⟨v', w', by simpa using r1, by simpa using r2, r3, r5⟩
    obtain ⟨v', w', r1, r2, r3, r4⟩ := key
    have hgb : ∀ b, b ∉ gh.bl → some b ≠ gh.v.ownBlock := fun b hb e => hb (a3.mem e.symm)
    -- the new ghost
    let bl' : List Nat := v'.ownBlock.toList
    let g' : Gh := ⟨v', v'.ownBlock.getD 0, bl', gh.rows⟩
    have hgb' : GB g' := by
      show (v'.ownBlock = none ∧ v'.ownBlock.toList = []) ∨ (v'.ownBlock = some (v'.ownBlock.getD 0) ∧ v'.ownBlock.toList = [v'.ownBlock.getD 0])
      cases v'.ownBlock with
      | none => exact .inl ⟨rfl, rfl⟩
      | some b => exact .inr ⟨rfl, rfl⟩
    have hlt : ∀ b, v'.ownBlock = some b → b < w'.heap.size := by
      intro b hb
      rcases r2.2 with ⟨e1, _⟩ | ⟨gg, cc, cur, e1, _, hgg, _⟩
      · rw [e1] at hb; cases hb
      · rw [e1] at hb; cases hb; exact (Array.getElem?_eq_some_iff.1 hgg).1
    refine ⟨v', w', gs.set h g', .inl ?_, hr.turn hg hs trivial g' (.sli e' (xs ++ ys)) (fun b hb hn => r3.block b hb (hgb b hn)) r3.size ?_ (fun i v hv => hv) ?_, ?_, ?_⟩
    · simp only [execOp, resolve, invoke, builtin, Sem.run_bind, Sem.run_pure, Result.andThen_ok, List.map_toArray, List.map_cons, List.map_nil, hv, hu, r1]
    · intro b hb
      have hb' : v'.ownBlock = some b := by
        have hb2 : b ∈ v'.ownBlock.toList := hb
        cases hvb : v'.ownBlock with
        | none => rw [hvb] at hb2; simp at hb2
        | some c => rw [hvb] at hb2; simp at hb2; rw [hb2]
      refine ⟨?_, hlt b hb'⟩
      rcases r4 with r4 | r4
      · left; rw [hb'] at r4; exact a3.mem r4.symm
      · right; rw [hb'] at r4; cases r4; exact Nat.le_refl _
    · intro _ _
      refine ⟨by simpa using r2, fun z hz => ?_, hgb'⟩
      rcases List.mem_append.1 hz with hz | hz
      · exact a2 z hz
      · exact hyin z hz
    · have hk : h < gs.length := (List.getElem?_eq_some_iff.1 hg).1
      exact RV.own (g := g') (by simp [hk])
    · refine ⟨r3.os, r3.tape, r3.output, r3.size, fun b hb => r3.block b (by omega) (hgb b fun hm => ?_)⟩
      have := (hr.hn _ _ _ hg hs (by simp) b hm).1
      omega

/-- To a slice that is nil. -/
theorem l_append_nil {t e : TypeId} {bytes : Nat} [ht : TSlice P t e] [he : TElem P e (.int .i64 0) bytes] {x y : Operand} {ys : List Int} (hx : AV.ev env x = .val (.slice none 0 0)) (hy : Imm os (AV.ev env y) (.ints ys)) (hb : ys.length * bytes ≤ 140737488355328) :
    LOp P ⟨d, .call { callee := .builtin .append, args := #[x, y], argTypes := #[t, t] }, ty, pos, af, g⟩ env os (.own os.length) env (os ++ [.sli e ys]) := by
  refine l_new fun base w gs tm hr => ?_
  have hyv := hy.rv hr (hr.ev y)
  generalize hu : Act.eval ⟨tm, []⟩ y = u at hyv
  cases hyv with
  | ints hys =>
    obtain ⟨⟨ad, cap, rfl, hcap, hcm, hcells⟩, hyin⟩ := hys
    obtain ⟨ii, hi, hsz, hz, hby⟩ := he.info
    have a1 : w.ownsRow base e 1 (.slice none 0 0) 0 [] := World.ownsRow_nil w base e 1
    by_cases h0 : ys = []
    · subst h0
      refine ⟨w, ⟨.slice none 0 0, 0, [], []⟩, ?_, Below.refl _ _, fun b hb => by simp at hb, fun ok gs' => ⟨by simpa using a1, hyin, .inl ⟨rfl, rfl⟩⟩⟩
      have := run_append_none (ty' := ty) ht.und hi a1 ad cap
      simp only [execOp, resolve, invoke, builtin, Sem.run_bind, Sem.run_pure, Result.andThen_ok, List.map_toArray, List.map_cons, List.map_nil, hr.evv hx, hu, this, List.length_nil]
    · have hp : 0 < ys.length := List.length_pos_iff.2 h0
      obtain ⟨b, off, rfl, _, hc⟩ := hcells (by simpa using hp)
      have h64 : 0 + ys.length ≤ maxLen := by
        have := he.pos
        have : ys.length ≤ ys.length * bytes := Nat.le_mul_of_pos_right _ this
        simp only [maxLen]; omega
      obtain ⟨v', w', r1, r2, r3, r4, r5⟩ := run_append_own_at (P := P) w base t ty e ii _ 1 bytes ht.und hi hz hsz hby rfl (by omega) (.slice none 0 0) 0 [] a1 ⟨b, off, none⟩ ys.length cap (ys.map (Value.int .i64)) (by simp)
        (fun j u hj => by rw [add_none]; exact hc j u hj) (fun u hu => by obtain ⟨_, _, rfl⟩ := List.mem_map.1 hu; rfl) h64 (by simpa using hb) hr.hb
      have hne : ¬ v' = .slice none 0 0 := fun e => by have := (r4.1 e).2; omega
      rcases r2.2 with ⟨e1, _⟩ | ⟨gg, cc, cur, e1, e2, hgg, _⟩
      · exact absurd e1 hne
      · have hob : v'.ownBlock = some w.heap.size := by
          rcases r5 with r5 | r5
          · rw [e1] at r5; cases r5
          · exact r5
        have egg : gg = w.heap.size := by rw [e1] at hob; cases hob; rfl
        have hlt := (Array.getElem?_eq_some_iff.1 hgg).1
        refine ⟨w', ⟨v', w.heap.size, [w.heap.size], []⟩, ?_, (Below.refl _ _).grown r3 (Nat.le_refl _) (fun k hk => by cases hk), fun b hb => by simp at hb; omega, fun ok gs' => ⟨by simpa using r2, hyin, .inr ⟨hob, rfl⟩⟩⟩
        simp only [execOp, resolve, invoke, builtin, Sem.run_bind, Sem.run_pure, Result.andThen_ok, List.map_toArray, List.map_cons, List.map_nil, hr.evv hx, hu]
        rw [List.length_map, r1]
        simp

/-! ### Parts of slices that are read -/
theorem RowAt.sub {w : World} {ok : Nat → Prop} {a : Option Addr} {n cap : Nat} {vs : List Value} (h : RowAt w ok (.slice a n cap) vs) (lo hi : Nat) (h1 : lo ≤ hi) (h2 : hi ≤ vs.length) :
    RowAt w ok (sliced a lo hi cap 1) ((vs.take hi).drop lo) := by
  obtain ⟨a', cap', e, h3, h4, h5⟩ := h
  cases e
  have hl : ((vs.take hi).drop lo).length = hi - lo := by simp; omega
  refine ⟨_, cap - lo, by rw [hl]; rfl, by omega, by omega, fun hp => ?_⟩
  rw [hl] at hp
  obtain ⟨b, off, rfl, hok, hc⟩ := h5 (by omega)
  refine ⟨b, off + lo, ?_, hok, fun i u hu => ?_⟩
  · rw [if_neg (by omega)]; simp [add_none]
  · have hi' := (List.getElem?_eq_some_iff.1 hu).1
    rw [hl] at hi'
    rw [List.getElem?_drop, List.getElem?_take, if_pos (by omega)] at hu
    rw [Nat.add_assoc]
    exact hc (lo + i) u hu
theorem IntsAt.sub {w : World} {ok : Nat → Prop} {a : Option Addr} {n cap : Nat} {xs : List Int} (h : IntsAt w ok (.slice a n cap) xs) (lo hi : Nat) (h1 : lo ≤ hi) (h2 : hi ≤ xs.length) :
    IntsAt w ok (sliced a lo hi cap 1) ((xs.take hi).drop lo) := by
  refine ⟨?_, fun x hx => h.2 x (List.mem_of_mem_take (List.mem_of_mem_drop hx))⟩
  rw [List.map_drop, List.map_take]
  exact h.1.sub lo hi h1 (by simpa using h2)

theorem IntsAt.slice {w : World} {ok : Nat → Prop} {v : Value} {xs : List Int} (h : IntsAt w ok v xs) : ∃ a cap, v = .slice a xs.length cap ∧ xs.length ≤ cap := by
  obtain ⟨⟨a, cap, e, h1, _⟩, _⟩ := h
  simp at e h1
  exact ⟨a, cap, e, h1⟩

/-- The element's cells. -/
theorem run_size {e : TypeId} [he : TCell P e] (w : World) : (sizeOf e).run P w = .ok 1 w := by
  obtain ⟨ii, hi, hs⟩ := he.info
  simp [sizeOf, typeInfo, hi, hs]
theorem elem_of {t e : TypeId} (ht : P.underlying t = some (.slice e)) : P.elem t = e := by simp [Program.elem, ht]

theorem q_slice_hi {t e : TypeId} [ht : TSlice P t e] [he : TCell P e] {x y : Operand} {xs : List Int} {n : Int} (hx : AV.ev env x = .ints xs) (hy : AV.ev env y = .i n) (h0 : 0 ≤ n) (h1 : n ≤ xs.length) :
    QOp P wl ⟨d, .slice t x none (some y) none, ty, pos, af, g⟩ env os (.ints (xs.take n.toNat)) :=
  .of_run fun _ w gs tm hr => by
    have h := hr.ev x
    rw [hx] at h
    generalize hv : Act.eval ⟨tm, []⟩ x = v at h
    cases h with
    | ints hxs =>
      obtain ⟨a, cap, rfl, hc⟩ := hxs.slice
      have e1 := elem_of (P := P) ht.und
      refine ⟨_, .ints (by simpa using hxs.sub 0 n.toNat (by omega) (by omega)), fun w' _ => ?_⟩
      have hrun := run_slice_h (P := P) w' t a xs.length cap (by rw [e1]; exact ht.und) .i64 n h0 (by omega)
      rw [e1, run_size] at hrun
      have hat := run_sliceAt_slice (P := P) w' t (.slice a xs.length cap) none (some (.int .i64 n)) none (by rw [e1]; exact ht.und)
      simp only [execOp, hv, hr.evv hy, Option.map_none, Option.map_some, Sem.run_bind, hat, hrun, Result.andThen_ok, Sem.run_pure]
theorem q_slice_lo {t e : TypeId} [ht : TSlice P t e] [he : TCell P e] {x y : Operand} {xs : List Int} {n : Int} (hx : AV.ev env x = .ints xs) (hy : AV.ev env y = .i n) (h0 : 0 ≤ n) (h1 : n ≤ xs.length) :
    QOp P wl ⟨d, .slice t x (some y) none none, ty, pos, af, g⟩ env os (.ints (xs.drop n.toNat)) :=
  .of_run fun _ w gs tm hr => by
    have h := hr.ev x
    rw [hx] at h
    generalize hv : Act.eval ⟨tm, []⟩ x = v at h
    cases h with
    | ints hxs =>
      obtain ⟨a, cap, rfl, hc⟩ := hxs.slice
      have e1 := elem_of (P := P) ht.und
      refine ⟨_, .ints (by simpa using hxs.sub n.toNat xs.length (by omega) (by omega)), fun w' _ => ?_⟩
      have hrun := run_slice_l (P := P) w' t a xs.length cap (by rw [e1]; exact ht.und) .i64 n h0 h1
      rw [e1, run_size] at hrun
      have hat := run_sliceAt_slice (P := P) w' t (.slice a xs.length cap) (some (.int .i64 n)) none none (by rw [e1]; exact ht.und)
      simp only [execOp, hv, hr.evv hy, Option.map_none, Option.map_some, Sem.run_bind, hat, hrun, Result.andThen_ok, Sem.run_pure]
theorem q_slice_lh {t e : TypeId} [ht : TSlice P t e] [he : TCell P e] {x y z : Operand} {xs : List Int} {m n : Int} (hx : AV.ev env x = .ints xs) (hy : AV.ev env y = .i m) (hz : AV.ev env z = .i n) (h0 : 0 ≤ m) (h1 : m ≤ n) (h2 : n ≤ xs.length) :
    QOp P wl ⟨d, .slice t x (some y) (some z) none, ty, pos, af, g⟩ env os (.ints ((xs.take n.toNat).drop m.toNat)) :=
  .of_run fun _ w gs tm hr => by
    have h := hr.ev x
    rw [hx] at h
    generalize hv : Act.eval ⟨tm, []⟩ x = v at h
    cases h with
    | ints hxs =>
      obtain ⟨a, cap, rfl, hc⟩ := hxs.slice
      have e1 := elem_of (P := P) ht.und
      refine ⟨_, .ints (hxs.sub m.toNat n.toNat (by omega) (by omega)), fun w' _ => ?_⟩
      have hrun := run_slice_lh (P := P) w' t a xs.length cap (by rw [e1]; exact ht.und) .i64 .i64 m n h0 h1 (by omega)
      rw [e1, run_size] at hrun
      have hat := run_sliceAt_slice (P := P) w' t (.slice a xs.length cap) (some (.int .i64 m)) (some (.int .i64 n)) none (by rw [e1]; exact ht.und)
      simp only [execOp, hv, hr.evv hy, hr.evv hz, Option.map_some, Option.map_none, Sem.run_bind, hat, hrun, Result.andThen_ok, Sem.run_pure]

/-! ### Parts of the call's own slices -/
theorem sliced_own {w : World} {base : Nat} {e : TypeId} {gh : Gh} {xs : List Int} (a1 : w.ownsRow base e 1 gh.v xs.length (xs.map (Value.int .i64))) (a3 : GB gh) : ∃ a cap, gh.v = .slice a xs.length cap ∧ xs.length ≤ cap ∧ cap ≤ maxLen ∧ (0 < cap → a = some ⟨gh.b, 0, none⟩) := by
  rcases a1.2 with ⟨e1, e2⟩ | ⟨b, cap, cur, e1, e2, e3, e4, e5, _⟩
  · exact ⟨none, 0, by rw [e1, e2], by omega, by simp [maxLen], fun h => by omega⟩
  · refine ⟨some ⟨b, 0, none⟩, cap, e1, e4, e5, fun _ => ?_⟩
    rw [a3.eq (b := b) (by rw [e1]; rfl)]

theorem q_oslice_lo {t e : TypeId} [ht : TSlice P t e] [he : TCell P e] {x y : Operand} {h : Nat} {e' : TypeId} {xs : List Int} {n : Int} (hx : AV.ev env x = .own h) (hs : os[h]? = some (.sli e' xs)) (hy : AV.ev env y = .i n) (h0 : 0 ≤ n) (h1 : n ≤ xs.length) :
    QOp P wl ⟨d, .slice t x (some y) none none, ty, pos, af, g⟩ env os (.osub h n.toNat (xs.length - n.toNat)) :=
  .of_run fun _ w gs tm hr => by
    have hh := hr.ev x
    rw [hx] at hh
    generalize hv : Act.eval ⟨tm, []⟩ x = v at hh
    cases hh with
    | @own _ gh hg =>
      obtain ⟨a1, a2, a3⟩ := hr.ho _ _ _ hg hs
      obtain ⟨a, cap, ev, hc, hm, ha⟩ := sliced_own a1 a3
      have e1 := elem_of (P := P) ht.und
      refine ⟨sliced a n.toNat xs.length cap 1, ?_, fun w' _ => ?_⟩
      · refine RV.osub hg (fun hp => ?_) (by omega) (by omega)
        rw [if_neg (by omega), ha (by omega)]
        simp [add_none]
      · have hrun := run_slice_l (P := P) w' t a xs.length cap (by rw [e1]; exact ht.und) .i64 n h0 h1
        rw [e1, run_size] at hrun
        have hat := run_sliceAt_slice (P := P) w' t (.slice a xs.length cap) (some (.int .i64 n)) none none (by rw [e1]; exact ht.und)
        simp only [execOp, hv, ev, hr.evv hy, Option.map_none, Option.map_some, Sem.run_bind, hat, hrun, Result.andThen_ok, Sem.run_pure]
theorem q_oslice_hi {t e : TypeId} [ht : TSlice P t e] [he : TCell P e] {x y : Operand} {h : Nat} {e' : TypeId} {xs : List Int} {n : Int} (hx : AV.ev env x = .own h) (hs : os[h]? = some (.sli e' xs)) (hy : AV.ev env y = .i n) (h0 : 0 ≤ n) (h1 : n ≤ xs.length) :
    QOp P wl ⟨d, .slice t x none (some y) none, ty, pos, af, g⟩ env os (.osub h 0 n.toNat) :=
  .of_run fun _ w gs tm hr => by
    have hh := hr.ev x
    rw [hx] at hh
    generalize hv : Act.eval ⟨tm, []⟩ x = v at hh
    cases hh with
    | @own _ gh hg =>
      obtain ⟨a1, a2, a3⟩ := hr.ho _ _ _ hg hs
      obtain ⟨a, cap, ev, hc, hm, ha⟩ := sliced_own a1 a3
      have e1 := elem_of (P := P) ht.und
      refine ⟨sliced a 0 n.toNat cap 1, ?_, fun w' _ => ?_⟩
      · refine RV.osub hg (fun hp => ?_) (by omega) (by omega)
        rw [if_neg (by omega), ha (by omega)]
        simp [add_none]
      · have hrun := run_slice_h (P := P) w' t a xs.length cap (by rw [e1]; exact ht.und) .i64 n h0 (by omega)
        rw [e1, run_size] at hrun
        have hat := run_sliceAt_slice (P := P) w' t (.slice a xs.length cap) none (some (.int .i64 n)) none (by rw [e1]; exact ht.und)
        simp only [execOp, hv, ev, hr.evv hy, Option.map_none, Option.map_some, Sem.run_bind, hat, hrun, Result.andThen_ok, Sem.run_pure]

/-! ### copy -/
/-- Over a list from place 'off' on, as far as there is room. -/
def over (xs : List Int) (off len : Nat) (ys : List Int) : List Int := xs.take off ++ (ys.take len ++ xs.drop (off + min len ys.length))

theorem over_len {xs ys : List Int} {off len : Nat} (h : off + len ≤ xs.length) : (over xs off len ys).length = xs.length := by
  simp [over]; omega

/-- Where a copy goes to: all of a slice, or a part. -/
inductive Dst (os : List AO) (h : Nat) (off len : Nat) : AV → Prop
  | own {e : TypeId} {xs : List Int} : os[h]? = some (.sli e xs) → off = 0 → len = xs.length → Dst os h off len (.own h)
  | osub : Dst os h off len (.osub h off len)

theorem l_copy {t e : TypeId} {bytes : Nat} [ht : TSlice P t e] [he : TElem P e (.int .i64 0) bytes] {x y : Operand} {h off len : Nat} {e' : TypeId} {xs ys : List Int} {a : AV} (hx : AV.ev env x = a) (hd : Dst os h off len a) (hs : os[h]? = some (.sli e' xs)) (hle : off + len ≤ xs.length)
    (hy : Imm os (AV.ev env y) (.ints ys)) :
    LOp P ⟨d, .call { callee := .builtin .copy, args := #[x, y], argTypes := #[t, t] }, ty, pos, af, g⟩ env os (.i (min len ys.length : Nat)) env (os.set h (.sli e' (over xs off len ys))) := by
  intro base w gs tm hr
  have hxv := hr.ev x
  rw [hx] at hxv
  have hyv := hy.rv hr (hr.ev y)
  generalize hv : Act.eval ⟨tm, []⟩ x = v at hxv
  generalize hu : Act.eval ⟨tm, []⟩ y = u at hyv
  obtain ⟨gh, p, cap, hg, rfl, hp⟩ : ∃ gh p cap, gs[h]? = some gh ∧ v = .slice p len cap ∧ (0 < len → p = some ⟨gh.b, off, none⟩) := by
    cases hd with
    | own h1 h2 h3 =>
      cases hxv with
      | @own _ gh hg =>
        obtain ⟨a1, a2, a3⟩ := hr.ho _ _ _ hg h1
        obtain ⟨p, cap, ev, hc, hm, ha⟩ := sliced_own a1 a3
        subst h2 h3
        exact ⟨gh, p, cap, hg, ev, fun h0 => ha (by omega)⟩
    | osub =>
      cases hxv with
      | osub hg h1 h2 h3 => exact ⟨_, _, _, hg, rfl, h1⟩
  cases hyv with
  | ints hys =>
    obtain ⟨⟨ad, scap, rfl, hcap, hcm, hcells⟩, hyin⟩ := hys
    obtain ⟨a1, a2, a3⟩ := hr.ho _ _ _ hg hs
    obtain ⟨ii, hi, hsz, hz, hby⟩ := he.info
    have hsz' : (P.info? e).map (·.size) = some 1 := by rw [hi]; simp [hsz]
    have hyl : (ys.map (Value.int .i64)).length = ys.length := by simp
    by_cases h0 : min len ys.length = 0
    · -- nothing is copied
      have hrun := run_copy_none (P := P) w t t ty e p ad len cap ys.length scap ht.und hsz' (by show min ys.length len = 0; omega)
      have eo : over xs off len ys = xs := by
        unfold over
        rw [h0, Nat.add_zero, show ys.take len = [] from by apply List.eq_nil_of_length_eq_zero; rw [List.length_take]; omega]
        simp
      refine ⟨.int .i64 (min len ys.length : Nat), w, gs, .inl ?_, ?_, .val _, Below.refl _ _⟩
      · rw [hyl] at hu
        simp only [execOp, resolve, invoke, builtin, Sem.run_bind, Sem.run_pure, Result.andThen_ok, List.map_toArray, List.map_cons, List.map_nil, hv, hu, hrun, h0]
        rfl
      · rw [eo]
        have : os.set h (.sli e' xs) = os := by
          apply List.ext_getElem?
          intro i
          rw [List.getElem?_set]
          split
          · subst_vars
            have hlt := (List.getElem?_eq_some_iff.1 hs).1
            simp [hlt, (List.getElem?_eq_some_iff.1 hs).2]
          · rfl
        rw [this]; exact hr
    · obtain ⟨b, soff, rfl, _, hc⟩ := hcells (by rw [hyl]; omega)
      have hp' := hp (by omega)
      subst hp'
      rcases a1.2 with ⟨e1, e2⟩ | ⟨bb, cap', cur, e1, e2, e3, e4, e5, e6, e7⟩
      · omega
      · have ebb : gh.b = bb := a3.eq (by rw [e1]; rfl)
        have hn : ((ys.take len).map (Value.int .i64)).length = Nat.min ys.length len := by
          rw [List.length_map, List.length_take]; exact Nat.min_comm _ _
        have hrun := run_copy_row (P := P) w t t ty e gh.b off len cap ⟨b, soff, none⟩ ys.length scap cur e' ((ys.take len).map (Value.int .i64)) ht.und hsz' (by rw [ebb]; exact e3) hn
          (fun j u hj => by
            rw [add_none]
            refine hc j u ?_
            rw [List.map_take, List.getElem?_take] at hj
            split at hj
            · exact hj
            · cases hj)
          (by rw [hn]; have : Nat.min ys.length len ≤ len := Nat.min_le_right _ _; omega) (fun u hu => by obtain ⟨_, _, rfl⟩ := List.mem_map.1 hu; rfl)
        rw [List.append_assoc] at hrun
        have hl9 : ((ys.take len).map (Value.int .i64)).length = min len ys.length := by simp
        have hcl : cur.toList.length = cap' := by simp [e6]
        obtain ⟨L, hL⟩ : ∃ L, L = cur.toList.take off ++ ((ys.take len).map (Value.int .i64) ++ cur.toList.drop (off + ((ys.take len).map (Value.int .i64)).length)) := ⟨_, rfl⟩
        rw [← hL] at hrun
        have hLl : L.length = cap' := by
          rw [hL]
          simp only [List.length_append, List.length_take, List.length_drop, hl9, hcl]
          omega
        have hLx : L.take xs.length = (over xs off len ys).map (Value.int .i64) := by
          have hx7 : xs.map (Value.int .i64) = cur.toList.take xs.length := by rw [← e7, Nat.mul_one]
          rw [hL]
          unfold over
          simp only [List.map_append, List.map_take, List.map_drop, hx7]
          rw [List.take_append, List.take_append]
          simp only [List.length_take, List.length_map, List.take_take, hcl]
          congr 1
          · congr 1; omega
          · congr 1
            · rw [Nat.min_eq_right (by omega)]
            · rw [List.drop_take]
              congr 1
              omega
        have hheap : (w.setRow gh.b L.toArray).heap[bb]? = some (.cells L.toArray e' (0, 0)) := by rw [ebb]; exact setRow_heap w bb cur _ e' (0, 0) e3
        have hother : ∀ c, c < w.heap.size → c ∉ gh.bl → (w.setRow gh.b L.toArray).heap[c]? = w.heap[c]? := fun c hc hcb =>
          setRow_other w gh.b c _ (fun e' => hcb (a3.mem (by rw [e1, ← ebb, e']; rfl)))
        have hsize : (w.setRow gh.b L.toArray).heap.size = w.heap.size := by simp
        refine ⟨.int .i64 (min len ys.length : Nat), _, gs, .inl ?_, hr.upd hg hs trivial _ trivial hother (by rw [hsize]; exact Nat.le_refl _) fun _ => ?_, .val _, ?_⟩
        · rw [hyl] at hu
          have e9 : goInt ((ys.take len).map (Value.int .i64)).length = .int .i64 (min len ys.length : Nat) := by rw [hl9]; rfl
          simp only [execOp, resolve, invoke, builtin, Sem.run_bind, Sem.run_pure, Result.andThen_ok, List.map_toArray, List.map_cons, List.map_nil, hv, hu, hrun, e9]
        · refine ⟨⟨by simp [over_len hle], .inr ⟨bb, cap', _, by rw [over_len hle]; exact e1, e2, hheap, by rw [over_len hle]; exact e4, e5, by simp [hLl], ?_⟩⟩, fun z hz => ?_, a3⟩
          · rw [over_len hle, Nat.mul_one]; exact hLx
          · unfold over at hz
            rcases List.mem_append.1 hz with hz | hz
            · exact a2 z (List.mem_of_mem_take hz)
            · rcases List.mem_append.1 hz with hz | hz
              · exact hyin z (List.mem_of_mem_take hz)
              · exact a2 z (List.mem_of_mem_drop hz)
        · have hbb : base ≤ gh.b := by rw [ebb]; exact e2
          exact below_setRow (Below.refl _ _) hbb _

/-! ### Arrays and maps -/
class TArr (P : Program) (t : TypeId) (e : outParam TypeId) (n : outParam Nat) : Prop where
  und : P.underlying t = some (.array n e)
  elm : ∃ i, P.info? e = some i ∧ i.size = 1
class TMap (P : Program) (t : TypeId) (k e : outParam TypeId) : Prop where
  und : P.underlying t = some (.map k e)

/-! ### Structs laid out of their parts -/
/-- A struct all of whose n fields have one cell. -/
class TBuild (P : Program) (t : TypeId) (n : outParam Nat) (zs : outParam (List Value)) : Prop where
  info : ∃ i, P.info? t = some i ∧ i.zero = some (.agg zs.toArray) ∧ zs.length = n
  bl : (∀ parts, P.built t parts = Instr.fill (((List.range n).map fun i => (i, 1)).toArray[·]?) zs.toArray parts) ∨ (∀ parts, P.built t parts = Instr.fill (fun i => some (i * 1, 1)) zs.toArray parts)

theorem TBuild.str {t : TypeId} {n : Nat} {zs : List Value} (info : ∃ i, P.info? t = some i ∧ i.zero = some (.agg zs.toArray) ∧ zs.length = n)
    (und : ∃ fs, P.underlying t = some (.struct fs) ∧ fs.toList.mapM (fun f => (P.info? f.type).map fun i => (f.offset, i.size)) = some ((List.range n).map fun i => (i, 1))) : TBuild P t n zs := by
  refine ⟨info, .inl fun parts => ?_⟩
  obtain ⟨ii, hi, hz, _⟩ := info
  obtain ⟨fs, hu, hp⟩ := und
  unfold Program.built
  rw [hi, hu]
  simp only [hz, hp]
  rfl
/-- A value of one cell. -/
def OneC (env : Env) (os : List AO) (a : AV) : Prop := ∀ base w gs tm, Rel base w gs env os tm → ∀ v, RV w (okOf gs os) gs v a → v.oneCell' = true ∧ v.cells = #[v]

theorem rv_list {w : World} {ok : Nat → Prop} {gs : List Gh} : ∀ {vs : List Value} {l : List AV}, vs.length = l.length → (∀ i : Nat, i < vs.length → RV w ok gs (vs.getD i undef) (l.getD i .any)) → ∀ i : Nat, RV w ok gs (vs.getD i undef) (l.getD i .any) := by
  intro vs l hl h i
  rcases Nat.lt_or_ge i vs.length with hi | hi
  · exact h i hi
  · rw [show l.getD i .any = .any from by simp [List.getD_eq_getElem?_getD, List.getElem?_eq_none (show l.length ≤ i by omega)]]
    exact .any _

theorem q_build0 {t : TypeId} {n : Nat} {zs : List Value} [ht : TBuild P t n zs] (h1 : zs.all (·.oneCell') = true) : QOp P wl ⟨d, .build t #[], ty, pos, af, g⟩ env os (.agg (zs.map AV.val)) :=
  .of_run fun _ w gs tm hr => by
    refine ⟨.agg zs.toArray, .agg (by simp) (List.all_eq_true.1 h1) fun i => ?_, fun w' _ => ?_⟩
    · simp only [List.getD_eq_getElem?_getD, List.getElem?_map]
      cases zs[i]? with
      | none => exact .any _
      | some z => exact .val _
    · have hb : P.built t (#[] : Array (Nat × Value)).toList = some zs.toArray := by rcases ht.bl with e | e <;> rw [e] <;> rfl
      simp [execOp, run_build (P := P) w' t _ _ hb]
theorem q_build1 {t : TypeId} {zs : List Value} [ht : TBuild P t 1 zs] {x : Operand} {a : AV} (hx : AV.ev env x = a) (h1 : OneC env os a) : QOp P wl ⟨d, .build t #[(0, x)], ty, pos, af, g⟩ env os (.agg [a]) :=
  .of_run fun _ w gs tm hr => by
    have hv := hr.ev x
    rw [hx] at hv
    obtain ⟨o1, c1⟩ := h1 _ _ _ _ hr _ hv
    refine ⟨.agg [Act.eval ⟨tm, []⟩ x].toArray, .agg rfl (by simpa using o1) (rv_list rfl fun i hi => ?_), fun w' _ => ?_⟩
    · match i, hi with
      | 0, _ => exact hv
    · obtain ⟨ii, _, _, hl⟩ := ht.info
      match zs, hl, ht with
      | [z], _, ht =>
        have hb : P.built t (#[(0, Act.eval ⟨tm, []⟩ x)] : Array (Nat × Value)).toList = some #[Act.eval ⟨tm, []⟩ x] := by
          rcases ht.bl with e | e <;> rw [e] <;> simp [Instr.fill, c1, List.range_succ]
        simp [execOp, run_build (P := P) w' t _ _ hb]
theorem q_build2 {t : TypeId} {zs : List Value} [ht : TBuild P t 2 zs] {x y : Operand} {a b : AV} (hx : AV.ev env x = a) (hy : AV.ev env y = b) (h1 : OneC env os a) (h2 : OneC env os b) : QOp P wl ⟨d, .build t #[(0, x), (1, y)], ty, pos, af, g⟩ env os (.agg [a, b]) :=
  .of_run fun _ w gs tm hr => by
    have hv := hr.ev x
    rw [hx] at hv
    have hu := hr.ev y
    rw [hy] at hu
    obtain ⟨o1, c1⟩ := h1 _ _ _ _ hr _ hv
    obtain ⟨o2, c2⟩ := h2 _ _ _ _ hr _ hu
    refine ⟨.agg [Act.eval ⟨tm, []⟩ x, Act.eval ⟨tm, []⟩ y].toArray, .agg rfl (by simp; exact ⟨o1, o2⟩) (rv_list rfl fun i hi => ?_), fun w' _ => ?_⟩
    · match i, hi with
      | 0, _ => exact hv
      | 1, _ => exact hu
    · obtain ⟨ii, _, _, hl⟩ := ht.info
      match zs, hl, ht with
      | [z1, z2], _, ht =>
        have hb : P.built t (#[(0, Act.eval ⟨tm, []⟩ x), (1, Act.eval ⟨tm, []⟩ y)] : Array (Nat × Value)).toList = some #[Act.eval ⟨tm, []⟩ x, Act.eval ⟨tm, []⟩ y] := by
          rcases ht.bl with e | e <;> rw [e] <;> simp [Instr.fill, c1, c2, List.range_succ]
        simp [execOp, run_build (P := P) w' t _ _ hb]

/-! ### A call of a function that is a value -/
end

end Go.Proofs.Ytcolpjpppdmanaa
/-
  Contracts of functions that write to memory that is handed to them, and calls by them. No condition.
-/
namespace Go.Proofs.Ytcolpjpppdmanaa
open Go Go.RowKit

/-- A slice of integers, or of rows of integers, that is all its own. -/
def AO.plain : AO → Prop
  | .sli _ _ => True
  | .sls _ _ _ => True
  | .ob _ => True
  | _ => False
theorem AO.plain.live {o : AO} (h : o.plain) : o.live := by cases o <;> simp_all [AO.plain, AO.live]
theorem AO.plain.ro {base : Nat} {w : World} {ok ok' : Nat → Prop} {gs gs' : List Gh} {g : Gh} {o : AO} (h : o.plain) (hr : RO base w ok gs g o) : RO base w ok' gs' g o := by
  cases o with
  | sli e xs => exact hr
  | sls e e2 xss => exact hr
  | ob q => exact hr
  | _ => exact h.elim

/-- The objects 'os' behind the handles 0, 1, .. -/
structure Objs (base : Nat) (w : World) (gs : List Gh) (os : List AO) : Prop where
  hl : gs.length = os.length
  hp : ∀ o ∈ os, o.plain
  ho : ∀ (h : Nat) g o, gs[h]? = some g → os[h]? = some o → RO base w (fun _ => True) gs g o
  hd : ∀ (h k : Nat) g g', h ≠ k → gs[h]? = some g → gs[k]? = some g' → ∀ b, b ∈ g.bl → b ∉ g'.bl
  hn : ∀ (h : Nat) g, gs[h]? = some g → ∀ b, b ∈ g.bl → base ≤ b ∧ b < w.heap.size

/-- The function writes to the objects 'os', which its arguments name, and hands back a plain value: Q speaks of both. All else is as it was. -/
def AFnU (P : Program) (f : FuncId) (args : List AV) (os : List AO) (Q : Value → List AO → Prop) : Prop :=
  HasBody P f ∧ ∀ base w gs vs, base ≤ w.heap.size → Objs base w gs os → vs.size = args.length → (∀ i : Nat, RV w (okOf gs os) gs (vs.getD i undef) (args.getD i .any)) →
    Calls P f vs w fun e w' => ∃ v os', e = .returned v ∧ Q v os' ∧ Objs base w' gs os' ∧ Below base w w' ∧ ∀ b, b < w.heap.size → (∀ (h : Nat) g, gs[h]? = some g → b ∉ g.bl) → w'.heap[b]? = w.heap[b]?

theorem start_rv {w : World} {ok : Nat → Prop} {gs : List Gh} (args : List AV) (n : Nat) (vs : Array Value) (hv : ∀ i : Nat, RV w ok gs (vs.getD i undef) (args.getD i .any)) (i : Nat) :
    RV w ok gs ((vs ++ Array.replicate n undef).getD i undef) ((Env.start args n).lk i) := by
  have e1 : (Env.start args n).lk i = args.getD i .any := by
    simp only [Env.lk, Env.fd, Env.start, fdm_enumF args 0 i (Nat.zero_le _), Nat.sub_zero]
    rw [List.getD_eq_getElem?_getD]
    cases hb : Nat.blt i (args.length + n) with
    | true => rfl
    | false =>
      have : ¬ i < args.length + n := by intro h4; rw [← Nat.blt_eq, hb] at h4; cases h4
      rw [List.getElem?_eq_none (by omega)]; rfl
  have e2 : (vs ++ Array.replicate n undef).getD i undef = vs.getD i undef := by
    simp only [Array.getD_eq_getD_getElem?, Array.getElem?_append]
    split
    · rfl
    · rename_i hi
      rw [Array.getElem?_eq_none (Nat.le_of_not_lt hi), Array.getElem?_replicate]
      split <;> rfl
  rw [e1, e2]
  exact hv i

theorem AFnU.of {P : Program} {f : FuncId} {fn : Func} {c : Code} {args : List AV} {os : List AO} {Q : Value → List AO → Prop} {n : Nat} (hf : P.funcs[f]? = some fn) (hb : fn.body = some c) (hnm : (fn.name == "runtime.NumGoroutine") = false) (hn : fn.ntmps - args.length = n)
    (h : ∀ K, AWp P c (fun _ _ => False) (fun _ _ _ => False) (fun env os1 => ∃ v os', ResIs P fn env os1 (.val v) ∧ Q v os' ∧ os1.take os.length = os' ∧ os1[os.length]? = some (.keep (os.length + 1) K) ∧ ∀ o ∈ os', o.plain) (Env.start args n) (os ++ [.keep (os.length + 1) K])) :
    AFnU P f args os Q := by
  refine ⟨⟨fn, c, hf, hnm, hb⟩, fun base w gs vs hbase hO hsz hvs => calls_of_wp hf hb ?_⟩
  rw [show fn.ntmps - vs.size = n by rw [hsz]; exact hn]
  let bl : List Nat := (List.range w.heap.size).filter fun b => decide (base ≤ b) && gs.all fun g => !g.bl.contains b
  let gk : Gh := ⟨undef, 0, bl, []⟩
  let K : Kp := ⟨fun b => w.heap[b]?, gs ++ [gk]⟩
  have hbl : ∀ b, b ∈ bl ↔ b < w.heap.size ∧ base ≤ b ∧ ∀ (h : Nat) g, gs[h]? = some g → b ∉ g.bl := by
    intro b
    simp only [bl, List.mem_filter, List.mem_range, Bool.and_eq_true, decide_eq_true_eq, List.all_eq_true, Bool.not_eq_true', List.contains_eq_mem, decide_eq_false_iff_not]
    constructor
    · rintro ⟨h1, h2, h3⟩
      exact ⟨h1, h2, fun h g hg => h3 g (List.mem_of_getElem? hg)⟩
    · rintro ⟨h1, h2, h3⟩
      exact ⟨h1, h2, fun g hg => by obtain ⟨i, hi⟩ := List.getElem?_of_mem hg; exact h3 i g hi⟩
  have hl := hO.hl
  have part : ∀ {i : Nat} {x : Gh} {y : AO}, (gs ++ [gk])[i]? = some x → (os ++ [.keep (os.length + 1) K])[i]? = some y → (gs[i]? = some x ∧ os[i]? = some y) ∨ (i = os.length ∧ x = gk ∧ y = .keep (os.length + 1) K) := by
    intro i x y hx hy
    rcases append_one hx with ⟨h1, h2⟩ | ⟨h1, rfl⟩
    · rcases append_one hy with ⟨h3, h4⟩ | ⟨h3, rfl⟩
      · exact .inl ⟨h2, h4⟩
      · omega
    · rcases append_one hy with ⟨h3, h4⟩ | ⟨h3, rfl⟩
      · omega
      · exact .inr ⟨h3, rfl, rfl⟩
  have gl : ∀ (i : Nat) x, gs[i]? = some x → (gs ++ [gk])[i]? = some x := fun i x e => by
    rw [List.getElem?_append_left (List.getElem?_eq_some_iff.1 e).1]; exact e
  have kp : Keeps (okOf gs os) (okOf (gs ++ [gk]) (os ++ [.keep (os.length + 1) K])) w w := by
    intro b hbk _
    refine ⟨fun i x y hx hy hny hm => ?_, rfl⟩
    rcases part hx hy with ⟨h1, h2⟩ | ⟨_, _, rfl⟩
    · exact hbk i x y h1 h2 hny hm
    · exact hny.elim
  have hrel : Rel base w (gs ++ [gk]) (Env.start args n) (os ++ [.keep (os.length + 1) K]) (vs ++ Array.replicate n undef) := by
    refine ⟨hbase, by simp [hl], by simp [Env.start, hsz], fun i => ?_, ?_, ?_, ?_⟩
    · exact start_rv args n vs (fun i => (hvs i).mono kp gl) i
    · intro i x y hx hy
      rcases part hx hy with ⟨h1, h2⟩ | ⟨_, rfl, rfl⟩
      · exact (hO.hp y (List.mem_of_getElem? h2)).ro (hO.ho i x y h1 h2)
      · exact ⟨fun b _ => rfl, by simp [K, hl], fun i x h => h⟩
    · intro i j g1 g2 o1 o2 hij hg1 hg2 ho1 ho2 _ _ b hb1 hb2
      rcases part hg1 ho1 with ⟨a1, a2⟩ | ⟨a1, rfl, _⟩
      · rcases part hg2 ho2 with ⟨b1, b2⟩ | ⟨_, rfl, _⟩
        · exact hO.hd i j g1 g2 hij a1 b1 b hb1 hb2
        · exact ((hbl b).1 hb2).2.2 i g1 a1 hb1
      · rcases part hg2 ho2 with ⟨b1, b2⟩ | ⟨b1, _, _⟩
        · exact ((hbl b).1 hb1).2.2 j g2 b1 hb2
        · omega
    · intro i x y hx hy _ b hb
      rcases part hx hy with ⟨h1, h2⟩ | ⟨_, rfl, _⟩
      · exact hO.hn i x h1 b hb
      · exact ⟨((hbl b).1 hb).2.1, ((hbl b).1 hb).1⟩
  refine wp_mono (h K base w w _ _ hrel (Below.refl _ _)) ?_
  intro e a w' hq
  cases e with
  | normal => obtain ⟨_, _, _, _, _, _, hx⟩ := hq; exact hx.elim
  | exit j => obtain ⟨_, _, _, _, _, _, hx⟩ := hq; exact hx.elim
  | ret =>
    obtain ⟨env, os1, gs1, hr, hd, hbel, v, os', h1, h2, h3, h4, h5⟩ := hq
    obtain ⟨u, hu, hv⟩ := h1 _ _ _ _ hr
    cases hv
    have hlt : os.length < os1.length := (List.getElem?_eq_some_iff.1 h4).1
    have hltg : os.length < gs1.length := by have := hr.hl; omega
    obtain ⟨g1, hg1⟩ : ∃ g1, gs1[os.length]? = some g1 := ⟨_, List.getElem?_eq_getElem hltg⟩
    obtain ⟨r1, r2, r3⟩ := hr.ho _ _ _ hg1 h4
    have pin : ∀ (i : Nat) x, gs[i]? = some x → gs1[i]? = some x := fun i x e => r3 i x (gl i x e)
    have egk : g1 = gk := by
      have := r3 os.length gk (by show (gs ++ [gk])[os.length]? = some gk; rw [← hl]; simp)
      rw [hg1] at this
      exact Option.some.inj this
    rw [egk] at r1
    have get' : ∀ {i : Nat} {y : AO}, os'[i]? = some y → os1[i]? = some y ∧ i < os.length := by
      intro i y hy
      rw [← h3, List.getElem?_take] at hy
      split at hy
      · exact ⟨hy, ‹_›⟩
      · cases hy
    refine ⟨hd, v, hu, v, os', rfl, h2, ⟨?_, h5, ?_, hO.hd, ?_⟩, hbel, ?_⟩
    · rw [← h3, List.length_take]; omega
    · intro i x y hx hy
      obtain ⟨h6, h7⟩ := get' hy
      exact (h5 y (List.mem_of_getElem? hy)).ro (hr.ho i x y (pin i x hx) h6)
    · intro i x hx b hb
      have := hO.hn i x hx b hb
      exact ⟨this.1, Nat.lt_of_lt_of_le this.2 hbel.size⟩
    · intro b hb hnot
      rcases Nat.lt_or_ge b base with h6 | h6
      · exact hbel.block b h6
      · exact r1 b ((hbl b).2 ⟨hb, h6, hnot⟩)
  | goto l => exact (hq : False).elim
  | panic ch => exact (hq : False).elim
  | outgrown => exact (hq : False).elim

/-! ### The caller -/
/-- What may be handed on where the handles 'H' are handed over to be written to. -/
inductive ImmU (os : List AO) (H : List Nat) : AV → AV → Prop
  | any (a : AV) : ImmU os H a .any
  | val (v : Value) : ImmU os H (.val v) (.val v)
  | ints (xs : List Int) : ImmU os H (.ints xs) (.ints xs)
  | intss (xss : List (List Int)) : ImmU os H (.intss xss) (.intss xss)
  | ro (r : Ro) : ImmU os H (.ro r) (.ro r)
  | sem (hs : List Nat) {a : AV} {r : Ro} : Reads os hs a r → (∀ h, h ∈ hs → h ∉ H) → ImmU os H a (.ro r)
  | nil : ImmU os H (.val (.slice none 0 0)) (.ints [])
  | nils : ImmU os H (.val (.slice none 0 0)) (.intss [])
  | own {k h : Nat} : H[k]? = some h → ImmU os H (.own h) (.own k)
  | optr {k h i : Nat} : H[k]? = some h → ImmU os H (.optr h i) (.optr k i)
  | sli {h : Nat} {e : TypeId} {xs : List Int} : os[h]? = some (.sli e xs) → h ∉ H → ImmU os H (.own h) (.ints xs)
  | sls {h : Nat} {e e2 : TypeId} {xss : List (List Int)} : os[h]? = some (.sls e e2 xss) → h ∉ H → ImmU os H (.own h) (.intss xss)
  | orow {h i : Nat} {e e2 : TypeId} {xss : List (List Int)} : os[h]? = some (.sls e e2 xss) → h ∉ H → ImmU os H (.orow h i) (.ints (xss.getD i []))
  | agg {l l' : List AV} : l.length = l'.length → (∀ i : Nat, ImmU os H (l.getD i .any) (l'.getD i .any)) → ImmU os H (.agg l) (.agg l')

theorem RowAt.of_owns' {w : World} {base : Nat} {e : TypeId} {v : Value} {n : Nat} {vs : List Value} {ok : Nat → Prop} (h : w.ownsRow base e 1 v n vs) (hok : ∀ b, v.ownBlock = some b → ok b) : RowAt w ok v vs := by
  obtain ⟨a, cap, hv, h1, h2, h3⟩ := RowAt.of_owns h
  refine ⟨a, cap, hv, h1, h2, fun hp => ?_⟩
  obtain ⟨b, off, ha, _, hc⟩ := h3 hp
  exact ⟨b, off, ha, hok b (by rw [hv, ha]; rfl), hc⟩

section
variable {base : Nat} {w w' : World} {gs : List Gh} {env : Env} {os : List AO} {tm : Array Value} {H : List Nat} {osP : List AO}

/-- The ghosts that are handed over. -/
def selG (gs : List Gh) (H : List Nat) : List Gh := H.map fun h => gs.getD h ⟨undef, 0, [], []⟩

theorem selG_get (hlt : ∀ h ∈ H, h < gs.length) {k : Nat} {x : Gh} (hx : (selG gs H)[k]? = some x) : ∃ h, H[k]? = some h ∧ gs[h]? = some x := by
  simp only [selG, List.getElem?_map] at hx
  cases hk : H[k]? with
  | none => rw [hk] at hx; cases hx
  | some h =>
    have hl := hlt h (List.mem_of_getElem? hk)
    rw [hk] at hx
    have e1 : gs[h]? = some gs[h] := List.getElem?_eq_getElem hl
    simp [e1] at hx
    exact ⟨h, rfl, by rw [e1, hx]⟩
theorem selG_of {k h : Nat} {x : Gh} (hk : H[k]? = some h) (hx : gs[h]? = some x) : (selG gs H)[k]? = some x := by
  simp [selG, List.getElem?_map, hk, hx]

/-- The objects that are handed over: 'osP'. -/
structure Handed (os : List AO) (H : List Nat) (osP : List AO) : Prop where
  nd : H.Nodup
  ob : ∀ (k : Nat) h, H[k]? = some h → osP[k]? = os[h]?
  ln : osP.length = H.length
  pl : ∀ o ∈ osP, o.plain

theorem Handed.lt (hh : Handed os H osP) : ∀ h ∈ H, h < os.length := by
  intro h hm
  obtain ⟨k, hk⟩ := List.getElem?_of_mem hm
  have h1 := (List.getElem?_eq_some_iff.1 hk).1
  have h2 := hh.ob k h hk
  rw [List.getElem?_eq_getElem (by rw [hh.ln]; exact h1)] at h2
  exact (List.getElem?_eq_some_iff.1 h2.symm).1

theorem Handed.get (hh : Handed os H osP) {k h : Nat} (hk : H[k]? = some h) : ∃ o, osP[k]? = some o ∧ os[h]? = some o ∧ o.plain := by
  have h1 := (List.getElem?_eq_some_iff.1 hk).1
  have h2 := hh.ob k h hk
  rw [List.getElem?_eq_getElem (by rw [hh.ln]; exact h1)] at h2
  exact ⟨_, List.getElem?_eq_getElem _, h2.symm, hh.pl _ (List.getElem_mem _)⟩

theorem Rel.objs (hr : Rel base w gs env os tm) (hh : Handed os H osP) : Objs base w (selG gs H) osP := by
  have hlt : ∀ h ∈ H, h < gs.length := fun h hm => by rw [hr.hl]; exact hh.lt h hm
  refine ⟨by simp [selG, hh.ln], hh.pl, ?_, ?_, ?_⟩
  · intro k x o hx ho
    obtain ⟨h, hk, hg⟩ := selG_get hlt hx
    obtain ⟨o', h1, h2, h3⟩ := hh.get hk
    rw [ho] at h1; cases h1
    exact h3.ro (hr.ho _ _ _ hg h2)
  · intro k l x y hkl hx hy b hb1 hb2
    obtain ⟨h1, hk, hg1⟩ := selG_get hlt hx
    obtain ⟨h2, hl, hg2⟩ := selG_get hlt hy
    obtain ⟨o1, _, a1, p1⟩ := hh.get hk
    obtain ⟨o2, _, a2, p2⟩ := hh.get hl
    refine hr.hd h1 h2 x y o1 o2 (fun e => hkl ?_) hg1 hg2 a1 a2 p1.live.ne p2.live.ne b hb1 hb2
    subst e
    exact (List.getElem?_inj (List.getElem?_eq_some_iff.1 hk).1 hh.nd).1 (hk.trans hl.symm)
  · intro k x hx b hb
    obtain ⟨h, hk, hg⟩ := selG_get hlt hx
    obtain ⟨o, _, a1, p1⟩ := hh.get hk
    exact hr.hn h x o hg a1 p1.live.ne b hb

theorem ImmU.rv (hr : Rel base w gs env os tm) (hh : Handed os H osP) {a a' : AV} (h : ImmU os H a a') : ∀ {v : Value}, RV w (okOf gs os) gs v a → RV w (okOf (selG gs H) osP) (selG gs H) v a' := by
  have hlt : ∀ h ∈ H, h < gs.length := fun h hm => by rw [hr.hl]; exact hh.lt h hm
  have kp : Keeps (okOf gs os) (okOf (selG gs H) osP) w w := by
    intro b hb _
    refine ⟨fun k x y hx hy hny hm => ?_, rfl⟩
    obtain ⟨h, hk, hg⟩ := selG_get hlt hx
    obtain ⟨o, a1, a2, p⟩ := hh.get hk
    exact hb h x o hg a2 p.live hm
  -- the blocks of a handle that is kept are none of those that are handed over
  have free : ∀ {h : Nat} {g : Gh} {o : AO}, gs[h]? = some g → os[h]? = some o → o ≠ .dead → h ∉ H → ∀ b, b ∈ g.bl → okOf (selG gs H) osP b := by
    intro h g o hg ho hnd hnot b hb k x y hx hy hny hm
    obtain ⟨h', hk, hg'⟩ := selG_get hlt hx
    obtain ⟨o', a1, a2, p⟩ := hh.get hk
    exact hr.hd h h' g x o o' (fun e => hnot (by rw [e]; exact List.mem_of_getElem? hk)) hg hg' ho a2 hnd p.live.ne b hb hm
  induction h with
  | any a => intro v _; exact .any v
  | val v => intro v hv; cases hv; exact .val _
  | ints xs => intro v hv; cases hv with | ints h1 => exact .ints (h1.mono kp)
  | intss xss => intro v hv; cases hv with | intss h1 => exact .intss (h1.mono kp)
  | ro r => intro v hv; cases hv with | ro h1 => exact .ro (r.up kp h1)
  | sem hs h1 h2 => intro v hv; exact .ro (h1 base w gs _ hr.ho (fun h hm g o hg ho hnd b hb => free hg ho hnd (h2 h hm) b hb) kp v hv)
  | nil => intro v hv; cases hv; exact .ints IntsAt.nil
  | nils => intro v hv; cases hv; exact .intss IntssAt.nil
  | own h1 => intro v hv; cases hv with | own hg => exact .own (selG_of h1 hg)
  | optr h1 => intro v hv; cases hv with | optr hg => exact .optr (selG_of h1 hg)
  | sli h1 h2 => intro v hv; cases hv with | own hg =>
      obtain ⟨a1, a2, a3⟩ := hr.ho _ _ _ hg h1
      exact .ints ⟨RowAt.of_owns' a1 fun b hb => free hg h1 (by simp) h2 b (a3.mem hb), a2⟩
  | sls h1 h2 => intro v hv; cases hv with | own hg =>
      obtain ⟨vs, bs, mb, a1, a2, a3, a4, a5, a6, a7, _⟩ := hr.ho _ _ _ hg h1
      refine .intss ⟨vs, RowAt.of_owns' a1 fun b hb => free hg h1 (by simp) h2 b ?_, a2, fun i u hu => ⟨RowAt.of_owns' (a5 i u hu).1 fun b hb => free hg h1 (by simp) h2 b ?_, (a5 i u hu).2.1⟩⟩
      · rw [a7]
        rcases a6 with ⟨b1, _⟩ | ⟨b1, b2⟩
        · rw [b1] at hb; cases hb
        · rw [b1] at hb; cases hb; simp [b2]
      · rw [a7]
        refine List.mem_append.2 (.inr (List.mem_flatten.2 ⟨bs.getD i [], ?_, by rw [← (a5 i u hu).2.2, hb]; simp⟩))
        have hi : i < bs.length := by
          have := (List.getElem?_eq_some_iff.1 hu).1
          omega
        rw [List.getD_eq_getElem?_getD, List.getElem?_eq_getElem hi]
        simp
  | @orow h i e e2 xss h1 h2 => intro v hv; cases hv with | orow hg hrow =>
      obtain ⟨vs, bs, mb, a1, a2, a3, a4, a5, a6, a7, _⟩ := hr.ho _ _ _ hg h1
      rw [a4] at hrow
      refine .ints ⟨RowAt.of_owns' (a5 _ _ hrow).1 fun b hb => free hg h1 (by simp) h2 b ?_, (a5 _ _ hrow).2.1⟩
      rw [a7]
      refine List.mem_append.2 (.inr (List.mem_flatten.2 ⟨bs.getD i [], ?_, by rw [← (a5 _ _ hrow).2.2, hb]; simp⟩))
      have hi : i < bs.length := by
        have := (List.getElem?_eq_some_iff.1 hrow).1
        omega
      rw [List.getD_eq_getElem?_getD, List.getElem?_eq_getElem hi]
      simp
  | agg h1 _ ih => intro v hv; cases hv with | agg h2 h4 h3 => exact .agg (by omega) h4 fun i => ih i (h3 i)

/-- The objects at the handles 'H' are now those. -/
def setAll : List AO → List Nat → List AO → List AO
  | os, h :: H, o :: osP => setAll (os.set h o) H osP
  | os, _, _ => os

theorem setAll_get : ∀ {H : List Nat} {osP os : List AO} {i : Nat} {y : AO}, H.Nodup → osP.length = H.length → (setAll os H osP)[i]? = some y → (∃ k : Nat, H[k]? = some i ∧ osP[k]? = some y) ∨ (i ∉ H ∧ os[i]? = some y)
  | [], _, os, i, y, _, _, h => .inr ⟨by simp, by simpa [setAll] using h⟩
  | _ :: _, [], os, i, y, _, hl, h => by simp at hl
  | h0 :: H, o :: osP, os, i, y, hn, hl, h => by
    simp only [setAll] at h
    rcases setAll_get (List.nodup_cons.1 hn).2 (by simpa using hl) h with ⟨k, h1, h2⟩ | ⟨h1, h2⟩
    · exact .inl ⟨k + 1, by simpa using h1, by simpa using h2⟩
    · rw [List.getElem?_set] at h2
      split at h2
      · subst_vars
        split at h2
        · exact .inl ⟨0, rfl, by simpa using h2⟩
        · cases h2
      · rename_i hne
        exact .inr ⟨by simp [h1]; exact fun e => hne e.symm, h2⟩
theorem length_setAll : ∀ {H : List Nat} {osP os : List AO}, (setAll os H osP).length = os.length
  | [], osP, os => by cases osP <;> simp [setAll]
  | _ :: _, [], os => by simp [setAll]
  | h :: H, o :: osP, os => by simp [setAll, length_setAll]

theorem Rel.updAll (hr : Rel base w gs env os tm) (hh : Handed os H osP) {os' : List AO} (ho' : Objs base w' (selG gs H) os') (hbel : Below base w w')
    (hw : ∀ b, b < w.heap.size → (∀ (k : Nat) g, (selG gs H)[k]? = some g → b ∉ g.bl) → w'.heap[b]? = w.heap[b]?) : Rel base w' gs env (setAll os H os') tm := by
  have hlt : ∀ h ∈ H, h < gs.length := fun h hm => by rw [hr.hl]; exact hh.lt h hm
  have hl' : os'.length = H.length := by rw [← ho'.hl]; simp [selG]
  -- an object of the new state, and what stood there
  have part : ∀ {i : Nat} {x : Gh} {y : AO}, gs[i]? = some x → (setAll os H os')[i]? = some y →
      (∃ (k : Nat) (o : AO), H[k]? = some i ∧ os'[k]? = some y ∧ y.plain ∧ os[i]? = some o ∧ o.plain) ∨ (i ∉ H ∧ os[i]? = some y) := by
    intro i x y hx hy
    rcases setAll_get hh.nd hl' hy with ⟨k, h1, h2⟩ | ⟨h1, h2⟩
    · obtain ⟨o, _, a2, p⟩ := hh.get h1
      exact .inl ⟨k, o, h1, h2, ho'.hp y (List.mem_of_getElem? h2), a2, p⟩
    · exact .inr ⟨h1, h2⟩
  have hout : ∀ b, okOf gs os b → ∀ (k : Nat) g, (selG gs H)[k]? = some g → b ∉ g.bl := by
    intro b hb k g hg
    obtain ⟨h, hk, hg'⟩ := selG_get hlt hg
    obtain ⟨o, _, a2, p⟩ := hh.get hk
    exact hb h g o hg' a2 p.live
  have kp : Keeps (okOf gs os) (okOf gs (setAll os H os')) w w' := by
    intro b hb hlt'
    refine ⟨fun i x y hx hy hny hm => ?_, hw b hlt' (hout b hb)⟩
    rcases part hx hy with ⟨k, o, _, _, _, a4, p⟩ | ⟨_, h2⟩
    · exact hb i x o hx a4 p.live hm
    · exact hb i x y hx h2 hny hm
  have same : ∀ {i : Nat} {x : Gh} {y : AO}, gs[i]? = some x → os[i]? = some y → i ∉ H → y ≠ .dead → ∀ b, b ∈ x.bl → w'.heap[b]? = w.heap[b]? := by
    intro i x y hx hy hi hny b hb
    refine hw b (hr.hn i x y hx hy hny b hb).2 fun k g hg hm => ?_
    obtain ⟨h, hk, hg'⟩ := selG_get hlt hg
    obtain ⟨o, _, a2, p⟩ := hh.get hk
    exact hr.hd i h x g y o (fun e => hi (by rw [e]; exact List.mem_of_getElem? hk)) hx hg' hy a2 hny p.live.ne b hb hm
  -- liveness of what stood there
  have was : ∀ {i : Nat} {x : Gh} {y : AO}, gs[i]? = some x → (setAll os H os')[i]? = some y → y ≠ .dead → ∃ o, os[i]? = some o ∧ o ≠ .dead := by
    intro i x y hx hy hny
    rcases part hx hy with ⟨k, o, _, _, _, a4, p⟩ | ⟨_, h2⟩
    · exact ⟨o, a4, p.live.ne⟩
    · exact ⟨y, h2, hny⟩
  refine ⟨Nat.le_trans hr.hb hbel.size, by rw [length_setAll]; exact hr.hl, hr.hs, fun i => (hr.he i).mono kp (fun _ _ e => e), ?_, ?_, ?_⟩
  · intro i x y hx hy
    rcases part hx hy with ⟨k, o, h1, h2, p2, a4, p⟩ | ⟨h1, h2⟩
    · exact p2.ro (ho'.ho k x y (selG_of h1 hx) h2)
    · exact (hr.ho i x y hx h2).mono kp (fun _ _ e => e) fun hny => same hx h2 h1 hny
  · intro i j g1 g2 o1 o2 hij hg1 hg2 ho1 ho2 hn1 hn2
    obtain ⟨y1, b1, c1⟩ := was hg1 ho1 hn1
    obtain ⟨y2, b2, c2⟩ := was hg2 ho2 hn2
    exact hr.hd i j g1 g2 y1 y2 hij hg1 hg2 b1 b2 c1 c2
  · intro i x y hx hy hny b hb
    obtain ⟨z, h1, h2⟩ := was hx hy hny
    have := hr.hn i x z hx h1 h2 b hb
    exact ⟨this.1, Nat.lt_of_lt_of_le this.2 hbel.size⟩

def ImmUs (os : List AO) (H : List Nat) : List AV → List AV → Prop
  | [], [] => True
  | a :: as0, b :: bs => ImmU os H a b ∧ ImmUs os H as0 bs
  | _, _ => False
theorem ImmUs.get : ∀ {l l' : List AV}, ImmUs os H l l' → l.length = l'.length ∧ ∀ i : Nat, ImmU os H (l.getD i .any) (l'.getD i .any)
  | [], [], _ => ⟨rfl, fun i => .any _⟩
  | a :: as0, b :: bs, h => by
    obtain ⟨h1, h2⟩ := h
    have ih := ImmUs.get h2
    refine ⟨by simp [ih.1], fun i => ?_⟩
    cases i with
    | zero => simpa using h1
    | succ i => simpa using ih.2 i
  | [], _ :: _, h => h.elim
  | _ :: _, [], h => h.elim
theorem ImmU.aggs {l l' : List AV} (h : ImmUs os H l l') : ImmU os H (.agg l) (.agg l') := .agg h.get.1 h.get.2

theorem c_callu {P : Program} {d : Option Tmp} {ty : TypeId} {pos : String} {af : Array Edge} {g : Option (Nat × Bool)} {f : FuncId} {args : List AV} {Q : Value → List AO → Prop} (hc : AFnU P f args osP Q) {xs : List Operand} {ats : Array TypeId} (hh : Handed os H osP)
    (hi : ImmUs os H (xs.map (AV.ev env)) args) :
    COp P ⟨d, .call { callee := .value (.func f), args := xs.toArray, argTypes := ats }, ty, pos, af, g⟩ env os (fun r e o => ∃ v os', Q v os' ∧ r = .val v ∧ e = env ∧ o = setAll os H os') := by
  intro base w gs tm hr
  have hg := hi.get
  refine ⟨f, _, run_call hc.1 xs ats _ rfl w, (hc.2 base w (selG gs H) _ hr.hb (hr.objs hh) (by simpa using hg.1) fun i => ?_).mono ?_⟩
  · have h1 := hg.2 i
    have e1 : (xs.map (AV.ev env)).getD i .any = match xs[i]? with | some x => AV.ev env x | none => .any := by
      simp only [List.getD_eq_getElem?_getD, List.getElem?_map]; cases xs[i]? <;> rfl
    have e2 : (xs.map (Act.eval ⟨tm, []⟩)).toArray.getD i undef = match xs[i]? with | some x => Act.eval ⟨tm, []⟩ x | none => undef := by
      simp only [Array.getD_eq_getD_getElem?, List.getElem?_toArray, List.getElem?_map]; cases xs[i]? <;> rfl
    rw [e1] at h1
    rw [e2]
    cases hx : xs[i]? with
    | some x => rw [hx] at h1; exact h1.rv hr hh (hr.ev x)
    | none => rw [hx] at h1; exact h1.rv hr hh (.any _)
  · rintro e w' ⟨v, os', rfl, hq, ho', hbel, hw⟩
    exact ⟨v, .val v, env, setAll os H os', gs, rfl, ⟨v, os', hq, rfl, rfl, rfl⟩, hr.updAll hh ho' hbel hw, .val v, hbel⟩
end
end Go.Proofs.Ytcolpjpppdmanaa
/-
  The call's own slices of rows: a row goes in, by a store or by an append; a row's cell is written. No condition.
-/
namespace Go.Proofs.Ytcolpjpppdmanaa
open Go Go.RowKit

/-- The rows of handle 'h' are no more named. -/
def AV.noRow1 (h : Nat) : AV → AV
  | .orow k i => if k = h then .any else .orow k i
  | .orptr k i j => if k = h then .any else .orptr k i j
  | .agg _ => .any
  | .tup _ => .any
  | a => a
def AV.noRow (h : Nat) : AV → AV
  | .orow k i => if k = h then .any else .orow k i
  | .orptr k i j => if k = h then .any else .orptr k i j
  | .agg l => .agg (l.map (AV.noRow1 h))
  | .tup l => .tup (l.map (AV.noRow1 h))
  | a => a

def AO.via (f : AV → AV) (p : Nat) : AO → AO
  | .bx T avs => .bx T (avs.map f)
  | .slr e avs => .slr e (avs.map f)
  | .keep n K => if p < n then .keep 0 ⟨K.snap, []⟩ else .keep n K
  | o => o
theorem AO.via_dead {f : AV → AV} {p : Nat} {o : AO} : o.via f p = .dead ↔ o = .dead := by cases o <;> simp [AO.via]; split <;> simp
theorem AO.via_live {f : AV → AV} {p : Nat} {o : AO} : (o.via f p).live ↔ o.live := by
  cases o with
  | keep n K => simp only [AO.via]; split <;> exact Iff.rfl
  | _ => exact Iff.rfl

/-- Ghosts other than p stay; that of p keeps its value. -/
structure SameV (p : Nat) (gs gs' : List Gh) : Prop where
  other : ∀ (k : Nat) g, k ≠ p → gs[k]? = some g → gs'[k]? = some g
  same : ∀ g, gs[p]? = some g → ∃ g', gs'[p]? = some g' ∧ g'.v = g.v ∧ g'.b = g.b

section
variable {w w' : World} {ok ok' : Nat → Prop} {gs gs' : List Gh} {p : Nat}

theorem SameV.own (s : SameV p gs gs') {h : Nat} {g : Gh} (hg : gs[h]? = some g) : ∃ g', gs'[h]? = some g' ∧ g'.v = g.v ∧ g'.b = g.b := by
  by_cases e : h = p
  · subst e; exact s.same g hg
  · exact ⟨g, s.other h g e hg, rfl, rfl⟩

theorem RV.noRow1 (k : Keeps ok ok' w w') (s : SameV p gs gs') {v : Value} {a : AV} (hv : RV w ok gs v a) : RV w' ok' gs' v (a.noRow1 p) := by
  cases hv with
  | any v => exact .any v
  | val v => exact .val v
  | ints h => exact .ints (h.mono k)
  | intss h => exact .intss (h.mono k)
  | @ro v r h => exact .ro (r.up k h)
  | iptr h h1 h2 => exact .iptr (h.mono k) h1 h2
  | iiptr h h1 h2 => exact .iiptr (h.mono k) h1 h2
  | own h1 =>
    obtain ⟨g', a1, a2, _⟩ := s.own h1
    rw [← a2]; exact .own a1
  | optr h1 =>
    obtain ⟨g', a1, _, a3⟩ := s.own h1
    rw [← a3]; exact .optr a1
  | osub h1 h2 h3 h4 =>
    obtain ⟨g', a1, _, a3⟩ := s.own h1
    exact .osub a1 (fun hp => by rw [a3]; exact h2 hp) h3 h4
  | @orow j i g v h1 h2 =>
    simp only [AV.noRow1]; split
    · exact .any _
    · exact .orow (s.other _ _ ‹_› h1) h2
  | @orptr j i n blk m c g h1 h2 =>
    simp only [AV.noRow1]; split
    · exact .any _
    · exact .orptr (s.other _ _ ‹_› h1) h2
  | agg _ _ _ => exact .any _
  | tup _ _ => exact .any _

theorem RV.noRow (k : Keeps ok ok' w w') (s : SameV p gs gs') {v : Value} {a : AV} (hv : RV w ok gs v a) : RV w' ok' gs' v (a.noRow p) := by
  cases hv with
  | any v => exact .any v
  | val v => exact .val v
  | ints h => exact .ints (h.mono k)
  | intss h => exact .intss (h.mono k)
  | @ro v r h => exact .ro (r.up k h)
  | iptr h h1 h2 => exact .iptr (h.mono k) h1 h2
  | iiptr h h1 h2 => exact .iiptr (h.mono k) h1 h2
  | own h1 =>
    obtain ⟨g', a1, a2, _⟩ := s.own h1
    rw [← a2]; exact .own a1
  | optr h1 =>
    obtain ⟨g', a1, _, a3⟩ := s.own h1
    rw [← a3]; exact .optr a1
  | osub h1 h2 h3 h4 =>
    obtain ⟨g', a1, _, a3⟩ := s.own h1
    exact .osub a1 (fun hp => by rw [a3]; exact h2 hp) h3 h4
  | @orow j i g v h1 h2 =>
    simp only [AV.noRow]; split
    · exact .any _
    · exact .orow (s.other _ _ ‹_› h1) h2
  | @orptr j i n blk m c g h1 h2 =>
    simp only [AV.noRow]; split
    · exact .any _
    · exact .orptr (s.other _ _ ‹_› h1) h2
  | agg h1 h3 h2 => exact .agg (by simpa using h1) h3 fun i => by rw [getD_map_f _ rfl]; exact (h2 i).noRow1 k s
  | tup h1 h2 => exact .tup (by simpa using h1) fun i => by rw [getD_map_f _ rfl]; exact (h2 i).noRow1 k s
end

/-- Object 'p' takes the blocks of object 'k', which is no more. -/
theorem Rel.absorb {base : Nat} {w w' : World} {gs : List Gh} {env : Env} {os : List AO} {tm : Array Value} (h : Rel base w gs env os tm) {p k : Nat} {g gk : Gh} {o ok : AO} (hg : gs[p]? = some g) (ho : os[p]? = some o) (hlv : o.live)
    (hgk : gs[k]? = some gk) (hok : os[k]? = some ok) (hlk : ok.live) (hpk : p ≠ k) (g' : Gh) (o' : AO) (f : AV → AV) (hf : f .any = .any)
    (hw : ∀ b, b < w.heap.size → b ∉ g.bl → w'.heap[b]? = w.heap[b]?) (hsz : w.heap.size ≤ w'.heap.size)
    (hbl : ∀ b, b ∈ g'.bl → (b ∈ g.bl ∨ b ∈ gk.bl ∨ w.heap.size ≤ b) ∧ b < w'.heap.size)
    (hrv : ∀ {ok' : Nat → Prop} {v : Value} {a : AV}, Keeps (okOf gs os) ok' w w' → RV w (okOf gs os) gs v a → RV w' ok' (gs.set p g') v (f a))
    (hro : Keeps (okOf gs os) (okOf (gs.set p g') (((os.map (AO.via f p)).set p o').set k .dead)) w w' → RO base w' (okOf (gs.set p g') (((os.map (AO.via f p)).set p o').set k .dead)) (gs.set p g') g' o') :
    Rel base w' (gs.set p g') (env.mp f) (((os.map (AO.via f p)).set p o').set k .dead) tm := by
  have hnd := hlv.ne
  have hnk := hlk.ne
  have hpg : p < gs.length := (List.getElem?_eq_some_iff.1 hg).1
  have hpo : p < os.length := (List.getElem?_eq_some_iff.1 ho).1
  have hko : k < os.length := (List.getElem?_eq_some_iff.1 hok).1
  have gset : ∀ {i : Nat} {x : Gh}, (gs.set p g')[i]? = some x → (i = p ∧ x = g') ∨ (i ≠ p ∧ gs[i]? = some x) := by
    intro i x e
    rw [List.getElem?_set] at e
    split at e
    · subst_vars; simp at e; exact .inl ⟨rfl, e.symm⟩
    · exact .inr ⟨fun e' => by simp_all, e⟩
  -- an object of the new state that is there
  have oset : ∀ {i : Nat} {x : AO}, (((os.map (AO.via f p)).set p o').set k .dead)[i]? = some x → x ≠ .dead → i ≠ k ∧ ((i = p ∧ x = o') ∨ (i ≠ p ∧ ∃ y, os[i]? = some y ∧ x = y.via f p)) := by
    intro i x e hx
    rw [List.getElem?_set] at e
    split at e
    · subst_vars; simp [hko] at e; exact absurd e.symm hx
    · rename_i hik
      refine ⟨fun e' => hik e'.symm, ?_⟩
      rw [List.getElem?_set] at e
      split at e
      · subst_vars; simp [hpo] at e; exact .inl ⟨rfl, e.symm⟩
      · refine .inr ⟨fun e' => by simp_all, ?_⟩
        rw [List.getElem?_map] at e
        cases hy : os[i]? with
        | none => simp [hy] at e
        | some y => simp [hy] at e; exact ⟨y, rfl, e.symm⟩
  have kp : Keeps (okOf gs os) (okOf (gs.set p g') (((os.map (AO.via f p)).set p o').set k .dead)) w w' := by
    intro b hb hlt
    refine ⟨?_, hw b hlt (hb p g o hg ho hlv)⟩
    intro i x y hx hy hny hmem
    obtain ⟨hik, hy'⟩ := oset hy hny.ne
    rcases gset hx with ⟨rfl, rfl⟩ | ⟨hi, hx'⟩
    · rcases (hbl b hmem).1 with h1 | h1 | h1
      · exact hb i g o hg ho hlv h1
      · exact hb k gk ok hgk hok hlk h1
      · omega
    · rcases hy' with ⟨rfl, rfl⟩ | ⟨_, z, hz, rfl⟩
      · exact hi rfl
      · exact hb i x z hx' hz (AO.via_live.1 hny) hmem
  refine ⟨Nat.le_trans h.hb hsz, by simp [h.hl], h.hs, fun i => by rw [Env.lk_mp _ hf]; exact hrv kp (h.he i), ?_, ?_, ?_⟩
  · intro i x y hx hy
    by_cases hyd : y = .dead
    · subst hyd; trivial
    · obtain ⟨hik, hy'⟩ := oset hy hyd
      rcases gset hx with ⟨rfl, rfl⟩ | ⟨hi, hx'⟩
      · rcases hy' with ⟨_, rfl⟩ | ⟨hi, _⟩
        · exact hro kp
        · exact absurd rfl hi
      · rcases hy' with ⟨rfl, rfl⟩ | ⟨_, z, hz, rfl⟩
        · exact absurd rfl hi
        · have hz' := h.ho i x z hx' hz
          have same : z ≠ .dead → ∀ b, b ∈ x.bl → w'.heap[b]? = w.heap[b]? := fun hn b hb =>
            hw b (h.hn i x z hx' hz hn b hb).2 (h.hd i p x g z o hi hx' hg hz ho hn hnd b hb)
          cases z with
          | ob q => exact q.up (fun b hb => same (by simp) b hb) hz'
          | bx T avs =>
            obtain ⟨cs, h1, h2, h3, h4, h5, h6, h7⟩ := hz'
            exact ⟨cs, by rw [same (by simp) x.b (by simp [h3])]; exact h1, h2, h3, h4, by simpa using h5, h6, fun j => by rw [getD_map_f _ hf]; exact hrv kp (h7 j)⟩
          | keep n K =>
            obtain ⟨h1, h2, h3⟩ := hz'
            have hs : ∀ b, b ∈ x.bl → w'.heap[b]? = K.snap b := fun b hb => by rw [same (by simp) b hb]; exact h1 b hb
            simp only [AO.via]
            split
            · exact ⟨hs, rfl, fun i x hx => by simp at hx⟩
            · refine ⟨hs, h2, fun i y hy => ?_⟩
              have := (List.getElem?_eq_some_iff.1 hy).1
              rw [List.getElem?_set, if_neg (by omega)]
              exact h3 i y hy
          | dead => trivial
          | sli e xs =>
            obtain ⟨h1, h2, h3⟩ := hz'
            exact ⟨ownsRow_of_block h1 fun b hb => same (by simp) b (h3.mem hb), h2, h3⟩
          | slr e avs =>
            obtain ⟨vs, h1, h2, h3, h4⟩ := hz'
            exact ⟨vs, ownsRow_of_block h1 fun b hb => same (by simp) b (h4.mem hb), by simpa using h2, fun j => by rw [getD_map_f _ hf]; exact hrv kp (h3 j), h4⟩
          | sls e e2 xss =>
            obtain ⟨vs, bs, mb, h1, h2, h3, h4, h5, h6, h7, h8⟩ := hz'
            refine ⟨vs, bs, mb, ownsRow_of_block h1 fun b hb => same (by simp) b ?_, h2, h3, h4, fun i u hu => ?_, h6, h7, h8⟩
            · rw [h7]
              rcases h6 with ⟨h6, _⟩ | ⟨h6, h6'⟩
              · rw [h6] at hb; cases hb
              · rw [h6] at hb; cases hb; simp [h6']
            · obtain ⟨r1, r2, r3⟩ := h5 i u hu
              refine ⟨ownsRow_of_block r1 fun b hb => same (by simp) b ?_, r2, r3⟩
              rw [h7]
              refine List.mem_append.2 (.inr (List.mem_flatten.2 ⟨bs.getD i [], ?_, by rw [← r3, hb]; simp⟩))
              have hi : i < bs.length := by
                have := (List.getElem?_eq_some_iff.1 hu).1
                omega
              rw [List.getD_eq_getElem?_getD, List.getElem?_eq_getElem hi]
              simp
  · -- what p has now is apart from all others
    have apart : ∀ {j : Nat} {x : Gh} {z : AO}, j ≠ p → j ≠ k → gs[j]? = some x → os[j]? = some z → z ≠ .dead → ∀ b, b ∈ g'.bl → b ∉ x.bl := by
      intro j x z hjp hjk hx hz hzn b hb hb2
      rcases (hbl b hb).1 with h1 | h1 | h1
      · exact h.hd p j g x o z (fun e => hjp e.symm) hg hx ho hz hnd hzn b h1 hb2
      · exact h.hd k j gk x ok z (fun e => hjk e.symm) hgk hx hok hz hnk hzn b h1 hb2
      · have := (h.hn j x z hx hz hzn b hb2).2; omega
    intro i j g1 g2 o1 o2 hij hg1 hg2 ho1 ho2 hn1 hn2 b hb1 hb2
    obtain ⟨hik, ho1'⟩ := oset ho1 hn1
    obtain ⟨hjk, ho2'⟩ := oset ho2 hn2
    rcases gset hg1 with ⟨rfl, rfl⟩ | ⟨hi, hg1'⟩
    · rcases gset hg2 with ⟨rfl, _⟩ | ⟨hj, hg2'⟩
      · exact hij rfl
      · rcases ho2' with ⟨rfl, _⟩ | ⟨_, z, hz, rfl⟩
        · exact hij rfl
        · exact apart hj hjk hg2' hz (fun e => hn2 (AO.via_dead.2 e)) b hb1 hb2
    · rcases ho1' with ⟨rfl, _⟩ | ⟨_, z, hz, rfl⟩
      · exact absurd rfl hi
      · have hzn : z ≠ .dead := fun e => hn1 (AO.via_dead.2 e)
        rcases gset hg2 with ⟨rfl, rfl⟩ | ⟨hj, hg2'⟩
        · exact apart hi hik hg1' hz hzn b hb2 hb1
        · rcases ho2' with ⟨rfl, _⟩ | ⟨_, y, hy, rfl⟩
          · exact absurd rfl hj
          · exact h.hd i j g1 g2 z y hij hg1' hg2' hz hy hzn (fun e => hn2 (AO.via_dead.2 e)) b hb1 hb2
  · intro i x y hx hy hny b hb
    obtain ⟨hik, hy'⟩ := oset hy hny
    rcases gset hx with ⟨rfl, rfl⟩ | ⟨hi, hx'⟩
    · have := hbl b hb
      refine ⟨?_, this.2⟩
      rcases this.1 with h1 | h1 | h1
      · exact (h.hn i g o hg ho hnd b h1).1
      · exact (h.hn k gk ok hgk hok hnk b h1).1
      · exact Nat.le_trans h.hb h1
    · rcases hy' with ⟨rfl, rfl⟩ | ⟨_, z, hz, rfl⟩
      · exact absurd rfl hi
      · have := h.hn i x z hx' hz (fun e => hny (AO.via_dead.2 e)) b hb
        exact ⟨this.1, Nat.lt_of_lt_of_le this.2 hsz⟩

theorem flatten_set {bs : List (List Nat)} {i : Nat} (c : List Nat) (hi : i < bs.length) : (bs.set i c).flatten = (bs.take i).flatten ++ (c ++ (bs.drop (i + 1)).flatten) := by
  rw [List.set_eq_take_append_cons_drop, if_pos hi, List.flatten_append, List.flatten_cons]
theorem flatten_at {bs : List (List Nat)} {i : Nat} (hi : i < bs.length) : bs.flatten = (bs.take i).flatten ++ (bs.getD i [] ++ (bs.drop (i + 1)).flatten) := by
  have h := flatten_set (bs.getD i []) hi
  rw [← h]
  congr 1
  apply List.ext_getElem?
  intro j
  rw [List.getElem?_set]
  split
  · subst_vars; simp [hi]
  · rfl
theorem nodup_swap {mb A B D c : List Nat} (h : (mb ++ (A ++ (B ++ D))).Nodup) (hc : c.Nodup) (hd : ∀ b, b ∈ c → b ∉ mb ++ (A ++ (B ++ D))) : (mb ++ (A ++ (c ++ D))).Nodup := by
  simp only [List.nodup_append, List.mem_append] at *
  obtain ⟨h1, ⟨h2, ⟨h3, h4, h5⟩, h6⟩, h7⟩ := h
  refine ⟨h1, ⟨h2, ⟨hc, h4, ?_⟩, ?_⟩, ?_⟩
  · intro a ha b hb e
    subst e
    exact hd a ha (.inr (.inr (.inr hb)))
  · intro a ha b hb e
    subst e
    rcases hb with hb | hb
    · exact hd a hb (.inr (.inl ha))
    · exact h6 a ha a (.inr hb) rfl
  · intro a ha b hb e
    subst e
    rcases hb with hb | hb | hb
    · exact h7 a ha a (.inl hb) rfl
    · exact hd a hb (.inl ha)
    · exact h7 a ha a (.inr (.inr hb)) rfl

section
variable {P : Program} {env : Env} {os : List AO} {d : Option Tmp} {ty : TypeId} {pos : String} {af : Array Edge} {g : Option (Nat × Bool)}

theorem GB.list {g : Gh} (h : GB g) : g.v.ownBlock.toList = g.bl := by
  rcases h with ⟨h1, h2⟩ | ⟨h1, h2⟩
  · rw [h1, h2]; rfl
  · rw [h1, h2]; rfl
theorem GB.nodup {g : Gh} (h : GB g) : g.bl.Nodup := by
  rcases h with ⟨_, h2⟩ | ⟨_, h2⟩ <;> rw [h2] <;> simp

/-- A row goes into a cell. -/
theorem l_store_row {t : TypeId} [ht : TCell P t] {x y : Operand} {h i k : Nat} {e e2 e3 : TypeId} {xss : List (List Int)} {ys : List Int} (hx : AV.ev env x = .optr h i) (hs : os[h]? = some (.sls e e2 xss)) (hi : i < xss.length) (hy : AV.ev env y = .own k) (hk : os[k]? = some (.sli e3 ys)) (he : e3 = e2)
    (hhk : (h == k) = false) :
    LOp P ⟨d, .store t x y, ty, pos, af, g⟩ env os .any (env.mp (AV.noRow h)) (((os.map (AO.via (AV.noRow h) h)).set h (.sls e e2 (xss.set i ys))).set k .dead) := by
  subst he
  have hne : h ≠ k := by simpa using hhk
  intro base w gs tm hr
  have hxv := hr.ev x
  have hyv := hr.ev y
  rw [hx] at hxv
  rw [hy] at hyv
  generalize hv : Act.eval ⟨tm, []⟩ x = v at hxv
  generalize hu : Act.eval ⟨tm, []⟩ y = u at hyv
  cases hxv with
  | @optr _ _ gh hg =>
  cases hyv with
  | @own _ gk hgk =>
    obtain ⟨vs, bs, mb, a1, a2, a3, a4, a5, a6, a7, a8⟩ := hr.ho _ _ _ hg hs
    obtain ⟨b1, b2, b3⟩ := hr.ho _ _ _ hgk hk
    have hiv : i < vs.length := by omega
    have hib : i < bs.length := by omega
    obtain ⟨b, cap, e1, e2', e3', e4⟩ := own_slice a1 (i := i) hiv
    have emb : mb = [gh.b] ∧ gh.v.ownBlock = some gh.b := by
      rcases a6 with ⟨c1, _⟩ | ⟨c1, c2⟩
      · rw [c1] at e2'; cases e2'
      · exact ⟨c2, c1⟩
    have eb : gh.b = b := by rw [emb.2] at e2'; exact Option.some.inj e2'
    have hcell : w.cell? ⟨gh.b, i, none⟩ = some vs[i] := by rw [eb, e3']; simp [hiv]
    obtain ⟨ua, uc, eu⟩ := ownsRow_slice b1
    have a1' := a1
    rw [e1] at a1'
    have hst := a1'.stored i gk.v
    have hother : ∀ c, c < w.heap.size → c ∉ gh.bl → (w.setCell ⟨b, i, none⟩ gk.v).heap[c]? = w.heap[c]? := fun c hc hcb => hst.2.block c hc (fun e' => hcb (by rw [a7, emb.1, eb]; simp [Option.some.inj e']))
    have hgb : gh.b ∈ gh.bl := by rw [a7, emb.1]; simp
    have hdis : ∀ c, c ∈ gk.bl → c ∉ gh.bl := hr.hd k h gk gh _ _ (fun e => hne e.symm) hgk hg hk hs (by simp) (by simp)
    have hap : ∀ c, c ≠ gh.b → (w.setCell ⟨b, i, none⟩ gk.v).heap[c]? = w.heap[c]? := fun c hc => heap_setCell_other w ⟨b, i, none⟩ c gk.v (fun e' => hc (by rw [eb]; exact e'))
    let g' : Gh := ⟨gh.v, gh.b, mb ++ (bs.set i gk.bl).flatten, vs.set i gk.v⟩
    have hhg : h < gs.length := (List.getElem?_eq_some_iff.1 hg).1
    have sv : SameV h gs (gs.set h g') := by
      refine ⟨fun j z hj hz => ?_, fun z hz => ⟨g', by simp [hhg], ?_⟩⟩
      · rw [List.getElem?_set, if_neg (fun e => hj e.symm)]; exact hz
      · rw [hg] at hz; cases hz; exact ⟨rfl, rfl⟩
    refine ⟨undef, w.setCell ⟨b, i, none⟩ gk.v, gs.set h g', .inr ⟨?_, rfl⟩, hr.absorb hg hs trivial hgk hk trivial hne g' _ (AV.noRow h) rfl hother hst.2.size ?_ (fun kp hv => hv.noRow kp sv) ?_, .any _, ?_⟩
    · have := run_store_cell (P := P) (t := t) (a := ⟨gh.b, i, none⟩) hcell (by rw [eb]; exact e4) (v := gk.v) (by rw [eu]; rfl) (by rw [eu]; rfl)
      rw [eb] at this hv
      simp only [execOp, hv, hu, Sem.run_bind, this, Result.andThen_ok, Sem.run_pure]
    · intro c hc
      have hc' : c ∈ mb ∨ c ∈ (bs.set i gk.bl).flatten := List.mem_append.1 hc
      have key : c ∈ gh.bl ∨ c ∈ gk.bl := by
        rcases hc' with hc' | hc'
        · left; rw [a7]; exact List.mem_append.2 (.inl hc')
        · rw [flatten_set _ hib] at hc'
          rcases List.mem_append.1 hc' with hc' | hc'
          · left; rw [a7, flatten_at hib]; simp [hc']
          · rcases List.mem_append.1 hc' with hc' | hc'
            · right; exact hc'
            · left; rw [a7, flatten_at hib]; simp [hc']
      refine ⟨?_, ?_⟩
      · rcases key with key | key
        · exact .inl key
        · exact .inr (.inl key)
      · rcases key with key | key
        · have := (hr.hn _ _ _ hg hs (by simp) c key).2
          exact Nat.lt_of_lt_of_le this hst.2.size
        · have := (hr.hn _ _ _ hgk hk (by simp) c key).2
          exact Nat.lt_of_lt_of_le this hst.2.size
    · intro kp
      refine ⟨vs.set i gk.v, bs.set i gk.bl, mb, ?_, by simp [a2], by simp [a3], rfl, fun j u hj => ?_, ?_, rfl, ?_⟩
      · rw [List.length_set, e1]; exact hst.1
      · rw [List.getElem?_set] at hj
        have egd : (xss.set i ys).getD j [] = if j = i then ys else xss.getD j [] := by
          simp only [List.getD_eq_getElem?_getD, List.getElem?_set]
          by_cases e : i = j
          · subst e; simp [hi]
          · have e' : ¬ j = i := fun h => e h.symm
            simp [e, e']
        have egb : (bs.set i gk.bl).getD j [] = if j = i then gk.bl else bs.getD j [] := by
          simp only [List.getD_eq_getElem?_getD, List.getElem?_set]
          by_cases e : i = j
          · subst e; simp [hib]
          · have e' : ¬ j = i := fun h => e h.symm
            simp [e, e']
        rw [egd, egb]
        split at hj
        · subst_vars
          cases hj
          simp only [if_true]
          exact ⟨ownsRow_of_block b1 fun c hc => hap c fun e => hdis c (b3.mem hc) (by rw [e]; exact hgb), b2, b3.list⟩
        · rename_i hij
          have hij' : ¬ j = i := fun e => hij e.symm
          simp only [hij', if_false]
          obtain ⟨r1, r2, r3⟩ := a5 j u hj
          refine ⟨ownsRow_of_block r1 fun c hc => hap c fun e => ?_, r2, r3⟩
          -- a row's block is not the outer one
          have hjb : j < bs.length := by
            have := (List.getElem?_eq_some_iff.1 hj).1
            omega
          have hcm : c ∈ bs.flatten := List.mem_flatten.2 ⟨bs.getD j [], by rw [List.getD_eq_getElem?_getD, List.getElem?_eq_getElem hjb]; simp, by rw [← r3, hc]; simp⟩
          rw [a7, emb.1] at a8
          have := (List.nodup_cons.1 a8).1
          rw [← e] at this
          exact this hcm
      · exact .inr ⟨emb.2, emb.1⟩
      · show (mb ++ (bs.set i gk.bl).flatten).Nodup
        rw [flatten_set _ hib]
        rw [a7, flatten_at hib] at a8
        refine nodup_swap a8 b3.nodup fun c hc => ?_
        have := hdis c hc
        rwa [a7, flatten_at hib] at this
    · have hbb : base ≤ b := by rw [← eb]; exact (hr.hn _ _ _ hg hs (by simp) gh.b hgb).1
      exact (Below.refl _ _).setCell (p := ⟨b, i, none⟩) hbb _
end
end Go.Proofs.Ytcolpjpppdmanaa
