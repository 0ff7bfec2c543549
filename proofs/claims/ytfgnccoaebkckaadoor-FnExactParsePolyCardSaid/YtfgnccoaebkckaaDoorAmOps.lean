/-
  The quiet operations of the abstract machine: moves, arithmetic, comparisons, lengths, indexes, loads, parts of slices, calls that hand back plain values. No condition.
-/
import Derived.Test.YtfgnccoaebkckaaDoorAmWp
import Derived.IntWalk
namespace Go.Proofs.YtfgnccoaebkckaaDoor
open Go Go.RowKit

/-! ### Facts of the table of types -/
class TSlice (P : Program) (t : TypeId) (e : outParam TypeId) : Prop where
  und : P.underlying t = some (.slice e)
/-- A type of one cell that is no struct and no array. -/
class TCell (P : Program) (t : TypeId) : Prop where
  und : ∃ d, P.underlying t = some d ∧ (match d with | .struct _ | .array _ _ => true | _ => false) = false
  info : ∃ i, P.info? t = some i ∧ i.size = 1
/-- The zero value of an element's type, and its bytes. -/
class TElem (P : Program) (t : TypeId) (z : outParam Value) (bytes : outParam Nat) : Prop where
  info : ∃ i, P.info? t = some i ∧ i.size = 1 ∧ i.zero = some z ∧ i.bytes = bytes
  pos : 0 < bytes
class TKind (P : Program) (t : TypeId) (k : outParam IntKind) : Prop where
  und : P.underlying t = some (.int k)
class TBool (P : Program) (t : TypeId) : Prop where
  und : P.underlying t = some .bool
class TStr (P : Program) (t : TypeId) : Prop where
  und : P.underlying t = some .string
/-- A struct whose value has n cells. -/
class TStruct (P : Program) (t : TypeId) (n : outParam Nat) (zs : outParam (List Value)) : Prop where
  und : ∃ d, P.underlying t = some d ∧ (match d with | .struct _ | .array _ _ => true | _ => false) = true
  info : ∃ i, P.info? t = some i ∧ i.size = n ∧ i.zero = some (.agg zs.toArray) ∧ zs.length = n
class TField (P : Program) (t : TypeId) (f : Nat) (off : outParam Nat) : Prop where
  fld : ∃ fs fd i, P.underlying t = some (.struct fs) ∧ fs[f]? = some fd ∧ fd.offset = off ∧ P.info? fd.type = some i ∧ i.size = 1 ∧
    ∃ d, P.underlying fd.type = some d ∧ (match d with | .struct _ | .array _ _ => true | _ => false) = false

def geti (xs : List Int) (i : Int) : Int := xs.getD i.toNat 0
def gets (xss : List (List Int)) (i : Int) : List Int := xss.getD i.toNat []

section
variable {P : Program} {env : Env} {os : List AO} {d : Option Tmp} {ty : TypeId} {pos : String} {af : Array Edge} {g : Option (Nat × Bool)} {wl : Bool}

/-- The plainest way to a quiet operation. -/
theorem QOp.of_run {o : Oper} {r : AV} (h : ∀ base w gs tm, Rel base w gs env os tm → ∃ v, RV w (okOf gs os) gs v r ∧ ∀ w', (wl = false → Below w.heap.size w w') → (execOp (Act.eval ⟨tm, []⟩) o).run P w' = .ok (.value v) w') :
    QOp P wl o env os r := by
  intro base w gs tm hr
  obtain ⟨v, hv, hrun⟩ := h base w gs tm hr
  refine ⟨v, hv, fun e w' => hrun w' fun e' => (by rw [e] at e'; cases e'), fun w' hw' => ?_⟩
  unfold Oper.quietAt
  rw [hrun w' hw']
  exact ⟨rfl, rfl⟩
theorem QOp.of_runb {o : Oper} {r : AV} (h : ∀ base w gs tm, Rel base w gs env os tm → ∃ v, RV w (okOf gs os) gs v r ∧ ∀ w', Below w.heap.size w w' → (execOp (Act.eval ⟨tm, []⟩) o).run P w' = .ok (.value v) w') :
    QOp P false o env os r :=
  .of_run fun base w gs tm hr => let ⟨v, h1, h2⟩ := h base w gs tm hr; ⟨v, h1, fun w' hw' => h2 w' (hw' rfl)⟩

/-- A value already in place may be seen otherwise. -/
theorem QOp.cast {o : Oper} {r r' : AV} (e : r = r') (h : QOp P wl o env os r) : QOp P wl o env os r' := e ▸ h

theorem q_move {x : Operand} : QOp P wl ⟨d, .move x, ty, pos, af, g⟩ env os (AV.ev env x) :=
  .of_run fun _ _ _ _ hr => ⟨_, hr.ev x, fun _ _ => rfl⟩
theorem q_assign {x : Operand} : QOp P wl ⟨d, .assign x, ty, pos, af, g⟩ env os (AV.ev env x) :=
  .of_run fun _ _ _ _ hr => ⟨_, hr.ev x, fun _ _ => rfl⟩

theorem q_pick_t {c x y : Operand} (hc : AV.ev env c = .val (.bool true)) : QOp P wl ⟨d, .pick c x y, ty, pos, af, g⟩ env os (AV.ev env x) :=
  .of_run fun _ _ _ tm hr => ⟨_, hr.ev x, fun w' _ => by simp [execOp, hr.evv hc, asBool]⟩
theorem q_pick_f {c x y : Operand} (hc : AV.ev env c = .val (.bool false)) : QOp P wl ⟨d, .pick c x y, ty, pos, af, g⟩ env os (AV.ev env y) :=
  .of_run fun _ _ _ tm hr => ⟨_, hr.ev y, fun w' _ => by simp [execOp, hr.evv hc, asBool]⟩

/-- An operator on two known values. -/
theorem q_bin {op : BinOp} {xt yt : TypeId} {x y : Operand} {a b v : Value} (ha : AV.ev env x = .val a) (hb : AV.ev env y = .val b)
    (hg : eqGuard op xt x y a b = pure ()) (hrun : ∀ w, (binOp op xt a b).run P w = .ok v w) : QOp P wl ⟨d, .binOp op xt x y yt, ty, pos, af, g⟩ env os (.val v) :=
  .of_run fun _ _ _ tm hr => ⟨v, .val v, fun w' _ => by simp [execOp, hr.evv ha, hr.evv hb, hg, hrun]⟩

section ints
variable {xt yt : TypeId} {x y : Operand} {a b : Int} {k : IntKind}
theorem q_add (ha : AV.ev env x = .i a) (hb : AV.ev env y = .i b) (hi : inI (a + b)) : QOp P wl ⟨d, .binOp .add xt x y yt, ty, pos, af, g⟩ env os (.i (a + b)) :=
  q_bin ha hb (by simp [go_sem]) fun w => by simp [go_sem, IntWalk.i64_in _ hi]
theorem q_sub (ha : AV.ev env x = .i a) (hb : AV.ev env y = .i b) (hi : inI (a - b)) : QOp P wl ⟨d, .binOp .sub xt x y yt, ty, pos, af, g⟩ env os (.i (a - b)) :=
  q_bin ha hb (by simp [go_sem]) fun w => by simp [go_sem, IntWalk.i64_in _ hi]
theorem q_mul (ha : AV.ev env x = .i a) (hb : AV.ev env y = .i b) (hi : inI (a * b)) : QOp P wl ⟨d, .binOp .mul xt x y yt, ty, pos, af, g⟩ env os (.i (a * b)) :=
  q_bin ha hb (by simp [go_sem]) fun w => by simp [go_sem, IntWalk.i64_in _ hi]
theorem q_quoT (ha : AV.ev env x = .i a) (hb : AV.ev env y = .i b) (h0 : b ≠ 0) (hi : inI (a.tdiv b)) : QOp P wl ⟨d, .binOp .quo xt x y yt, ty, pos, af, g⟩ env os (.i (a.tdiv b)) :=
  q_bin ha hb (by simp [go_sem]) fun w => by simp [go_sem, IntWalk.i64_in _ hi, h0]
theorem q_remT (ha : AV.ev env x = .i a) (hb : AV.ev env y = .i b) (h0 : b ≠ 0) : QOp P wl ⟨d, .binOp .rem xt x y yt, ty, pos, af, g⟩ env os (.i (a.tmod b)) :=
  q_bin ha hb (by simp [go_sem]) fun w => by simp [go_sem, h0]
theorem q_quo (ha : AV.ev env x = .i a) (hb : AV.ev env y = .i b) (h0 : 0 ≤ a) (h1 : 0 < b) (hi : inI a) : QOp P wl ⟨d, .binOp .quo xt x y yt, ty, pos, af, g⟩ env os (.i (a / b)) := by
  have e : a.tdiv b = a / b := Int.tdiv_eq_ediv_of_nonneg h0
  have h2 : 0 ≤ a / b := Int.ediv_nonneg h0 (by omega)
  have h3 : a / b ≤ a := Int.ediv_le_self b h0
  have := q_quoT (P := P) (wl := wl) (os := os) (d := d) (ty := ty) (pos := pos) (af := af) (g := g) (xt := xt) (yt := yt) ha hb (by omega) (by rw [e]; unfold inI at *; omega)
  rwa [e] at this
theorem q_rem (ha : AV.ev env x = .i a) (hb : AV.ev env y = .i b) (h0 : 0 ≤ a) (h1 : 0 < b) : QOp P wl ⟨d, .binOp .rem xt x y yt, ty, pos, af, g⟩ env os (.i (a % b)) := by
  have e : a.tmod b = a % b := Int.tmod_eq_emod_of_nonneg h0
  have := q_remT (P := P) (wl := wl) (os := os) (d := d) (ty := ty) (pos := pos) (af := af) (g := g) (xt := xt) (yt := yt) ha hb (by omega)
  rwa [e] at this
theorem q_eql (ha : AV.ev env x = .val (.int k a)) (hb : AV.ev env y = .val (.int k b)) : QOp P wl ⟨d, .binOp .eql xt x y yt, ty, pos, af, g⟩ env os (.b (decide (a = b))) :=
  q_bin ha hb (by simp [go_sem]) fun w => by rw [binOp_eql, show (a == b) = decide (a = b) from by rw [Bool.eq_iff_iff]; simp]; rfl
theorem q_neq (ha : AV.ev env x = .val (.int k a)) (hb : AV.ev env y = .val (.int k b)) : QOp P wl ⟨d, .binOp .neq xt x y yt, ty, pos, af, g⟩ env os (.b (decide (a ≠ b))) :=
  q_bin ha hb (by simp [go_sem]) fun w => by rw [binOp_neq, show (a != b) = decide (a ≠ b) from by rw [Bool.eq_iff_iff]; simp]; rfl
theorem q_lss (ha : AV.ev env x = .val (.int k a)) (hb : AV.ev env y = .val (.int k b)) : QOp P wl ⟨d, .binOp .lss xt x y yt, ty, pos, af, g⟩ env os (.b (decide (a < b))) :=
  q_bin ha hb (by simp [go_sem]) fun w => by rw [binOp_lss]; rfl
theorem q_leq (ha : AV.ev env x = .val (.int k a)) (hb : AV.ev env y = .val (.int k b)) : QOp P wl ⟨d, .binOp .leq xt x y yt, ty, pos, af, g⟩ env os (.b (decide (a ≤ b))) :=
  q_bin ha hb (by simp [go_sem]) fun w => by rw [binOp_leq]; rfl
theorem q_gtr (ha : AV.ev env x = .val (.int k a)) (hb : AV.ev env y = .val (.int k b)) : QOp P wl ⟨d, .binOp .gtr xt x y yt, ty, pos, af, g⟩ env os (.b (decide (b < a))) :=
  q_bin ha hb (by simp [go_sem]) fun w => by rw [binOp_gtr]; rfl
theorem q_geq (ha : AV.ev env x = .val (.int k a)) (hb : AV.ev env y = .val (.int k b)) : QOp P wl ⟨d, .binOp .geq xt x y yt, ty, pos, af, g⟩ env os (.b (decide (b ≤ a))) :=
  q_bin ha hb (by simp [go_sem]) fun w => by rw [binOp_geq]; rfl
end ints

theorem q_eqlb {xt yt : TypeId} [ht : TBool P xt] {x y : Operand} {a b : Bool} (ha : AV.ev env x = .b a) (hb : AV.ev env y = .b b) : QOp P wl ⟨d, .binOp .eql xt x y yt, ty, pos, af, g⟩ env os (.b (decide (a = b))) :=
  q_bin ha hb (by simp [go_sem]) fun w => by rw [run_eql_bool w xt a b ht.und, show (a == b) = decide (a = b) from by rw [Bool.eq_iff_iff]; simp]
theorem q_neqb {xt yt : TypeId} [ht : TBool P xt] {x y : Operand} {a b : Bool} (ha : AV.ev env x = .b a) (hb : AV.ev env y = .b b) : QOp P wl ⟨d, .binOp .neq xt x y yt, ty, pos, af, g⟩ env os (.b (decide (a ≠ b))) :=
  q_bin ha hb (by simp [go_sem]) fun w => by rw [run_neq_bool w xt a b ht.und, show (!(a == b)) = decide (a ≠ b) from by rw [Bool.eq_iff_iff]; simp]

theorem q_not {xt : TypeId} {x : Operand} {b : Bool} (hb : AV.ev env x = .b b) : QOp P wl ⟨d, .unOp .not xt x, ty, pos, af, g⟩ env os (.b (!b)) :=
  .of_run fun _ _ _ tm hr => ⟨_, .val _, fun w' _ => by simp [execOp, hr.evv hb, Op.unary]⟩
theorem q_neg {xt : TypeId} {x : Operand} {a : Int} (ha : AV.ev env x = .i a) (hi : inI (0 - a)) : QOp P wl ⟨d, .unOp .neg xt x, ty, pos, af, g⟩ env os (.i (0 - a)) :=
  .of_run fun _ _ _ tm hr => ⟨_, .val _, fun w' _ => by have := IntWalk.i64_in _ hi; simp only [execOp, hr.evv ha, Op.unary, Op.intArith, this]; rfl⟩
theorem q_conv {src dst : TypeId} [hs : TKind P src .i64] [hd : TKind P dst .i64] {x : Operand} {a : Int} (ha : AV.ev env x = .i a) (hi : inI a) :
    QOp P wl ⟨d, .convert src dst x, ty, pos, af, g⟩ env os (.i a) :=
  .of_run fun _ _ _ tm hr => ⟨_, .val _, fun w' _ => by simp [execOp, hr.evv ha, convert, run_underlying hs.und, run_underlying hd.und, Conv.intToInt, IntWalk.i64_in _ hi]⟩
theorem q_min {ats : Array TypeId} {x y : Operand} {a b : Int} (ha : AV.ev env x = .i a) (hb : AV.ev env y = .i b) :
    QOp P wl ⟨d, .call { callee := .builtin .min, args := #[x, y], argTypes := ats }, ty, pos, af, g⟩ env os (.i (min a b)) :=
  .of_run fun _ _ _ tm hr => ⟨.int .i64 (if b < a then b else a), by
    have : (if b < a then b else a) = min a b := by simp only [Int.min_def]; split <;> split <;> omega
    rw [this]; exact .val _, fun w' _ => by simp [execOp, hr.evv ha, hr.evv hb, resolve, invoke, builtin, run_min_int2]⟩
theorem q_max {ats : Array TypeId} {x y : Operand} {a b : Int} (ha : AV.ev env x = .i a) (hb : AV.ev env y = .i b) :
    QOp P wl ⟨d, .call { callee := .builtin .max, args := #[x, y], argTypes := ats }, ty, pos, af, g⟩ env os (.i (max a b)) :=
  .of_run fun _ _ _ tm hr => ⟨.int .i64 (if b > a then b else a), by
    have : (if b > a then b else a) = max a b := by simp only [Int.max_def]; split <;> split <;> omega
    rw [this]; exact .val _, fun w' _ => by simp [execOp, hr.evv ha, hr.evv hb, resolve, invoke, builtin, run_max_int2]⟩

theorem q_extract {x : Operand} {l : List AV} {i : Nat} (hx : AV.ev env x = .tup l) (hi : i < l.length) : QOp P wl ⟨d, .extract x i, ty, pos, af, g⟩ env os (l.getD i .any) :=
  .of_run fun _ w gs tm hr => by
    have h := hr.ev x
    rw [hx] at h
    generalize hv : Act.eval ⟨tm, []⟩ x = v at h
    cases h with
    | @tup vs _ h1 h2 =>
      have hi' : i < vs.length := by omega
      refine ⟨_, h2 i, fun w' _ => ?_⟩
      simp [execOp, hv, Instr.extract, hi', List.getD_eq_getElem?_getD]
theorem q_extract_v {x : Operand} {vs : List Value} {i : Nat} {u : Value} (hx : AV.ev env x = .val (.tuple vs.toArray)) (hi : vs[i]? = some u) : QOp P wl ⟨d, .extract x i, ty, pos, af, g⟩ env os (.val u) :=
  .of_run fun _ w gs tm hr => ⟨u, .val u, fun w' _ => by simp [execOp, hr.evv hx, Instr.extract, hi]⟩

/-! ### Lengths -/
/-- The abstract value is a slice of n elements. -/
inductive HasLen (os : List AO) : AV → Nat → Prop
  | ints (xs : List Int) : HasLen os (.ints xs) xs.length
  | intss (xss : List (List Int)) : HasLen os (.intss xss) xss.length
  | nil : HasLen os (.val (.slice none 0 0)) 0
  | sli {h : Nat} {e : TypeId} {xs : List Int} : os[h]? = some (.sli e xs) → HasLen os (.own h) xs.length
  | slr {h : Nat} {e : TypeId} {avs : List AV} : os[h]? = some (.slr e avs) → HasLen os (.own h) avs.length
  | sls {h : Nat} {e e2 : TypeId} {xss : List (List Int)} : os[h]? = some (.sls e e2 xss) → HasLen os (.own h) xss.length
  | orow {h i : Nat} {e e2 : TypeId} {xss : List (List Int)} : os[h]? = some (.sls e e2 xss) → HasLen os (.orow h i) (xss.getD i []).length

theorem ownsRow_slice {w : World} {base : Nat} {e : TypeId} {size n : Nat} {v : Value} {xs : List Value} (h : w.ownsRow base e size v n xs) : ∃ a cap, v = .slice a n cap := by
  rcases h.2 with ⟨rfl, rfl⟩ | ⟨g, cap, _, rfl, _⟩
  · exact ⟨_, _, rfl⟩
  · exact ⟨_, _, rfl⟩

theorem HasLen.slice {base : Nat} {w : World} {gs : List Gh} {tm : Array Value} (hr : Rel base w gs env os tm) {v : Value} {a : AV} {n : Nat} (h : HasLen os a n) (hv : RV w (okOf gs os) gs v a) :
    ∃ p cap, v = .slice p n cap := by
  cases h with
  | ints xs => cases hv with | ints h1 => obtain ⟨⟨p, cap, e, _⟩, _⟩ := h1; exact ⟨p, cap, by simpa using e⟩
  | intss xss => cases hv with | intss h1 => obtain ⟨vs, ⟨p, cap, e, _⟩, hl, _⟩ := h1; exact ⟨p, cap, by rw [e, hl]⟩
  | nil => cases hv; exact ⟨_, _, rfl⟩
  | sli h1 => cases hv with | own hg => exact ownsRow_slice (hr.ho _ _ _ hg h1).1
  | slr h1 => cases hv with | own hg => obtain ⟨vs, a1, a2, _⟩ := hr.ho _ _ _ hg h1; rw [← a2]; exact ownsRow_slice a1
  | sls h1 => cases hv with | own hg => obtain ⟨vs, _, _, a1, a2, _⟩ := hr.ho _ _ _ hg h1; rw [← a2]; exact ownsRow_slice a1
  | orow h1 => cases hv with | orow hg hrow =>
      obtain ⟨vs, _, _, a1, a2, a3, a4, a5, _⟩ := hr.ho _ _ _ hg h1
      rw [a4] at hrow
      exact ownsRow_slice (a5 _ _ hrow).1

theorem q_len {t e : TypeId} [ht : TSlice P t e] {x : Operand} {n : Nat} (hx : HasLen os (AV.ev env x) n) :
    QOp P wl ⟨d, .call { callee := .builtin .len, args := #[x], argTypes := #[t] }, ty, pos, af, g⟩ env os (.i n) :=
  .of_run fun _ w gs tm hr => by
    obtain ⟨p, cap, hv⟩ := hx.slice hr (hr.ev x)
    refine ⟨_, .val _, fun w' _ => ?_⟩
    simp [execOp, resolve, invoke, builtin, hv, Builtin.len_, run_underlying ht.und, goInt]

/-! ### Indexes and loads of what is only read -/
theorem run_idx {t e : TypeId} (ht : P.underlying t = some (.slice e)) {i : TypeInfo} (hi : P.info? e = some i) (hs : i.size = 1) (a : Addr) (n cap : Nat) (j : Int) (h0 : 0 ≤ j) (h1 : j < n) (w : World) :
    (Instr.indexAt t (.slice (some a) n cap) (.int .i64 j)).run P w = .ok (.pointer (some (a.add j.toNat))) w := by
  simp [Instr.indexAt, run_underlying ht, asIntOf, sizeOf, typeInfo, hi, hs, h0, h1]

theorem q_idx_ints {t e : TypeId} [ht : TSlice P t e] [he : TCell P e] {x y : Operand} {xs : List Int} {i : Int} (hx : AV.ev env x = .ints xs) (hy : AV.ev env y = .i i) (h0 : 0 ≤ i) (h1 : i < xs.length) :
    QOp P wl ⟨d, .indexAddr t x y, ty, pos, af, g⟩ env os (.iptr xs i) :=
  .of_run fun _ w gs tm hr => by
    have h := hr.ev x
    rw [hx] at h
    generalize hv : Act.eval ⟨tm, []⟩ x = v at h
    cases h with
    | ints hxs =>
      refine ⟨_, .iptr hxs h0 h1, fun w' _ => ?_⟩
      obtain ⟨⟨p, cap, e1, _, _, h3⟩, _⟩ := hxs
      obtain ⟨b, off, rfl, _⟩ := h3 (by simp; omega)
      obtain ⟨ie, hi, hs⟩ := he.info
      have hrun := run_idx ht.und hi hs ⟨b, off, none⟩ (xs.map (Value.int .i64)).length cap i h0 (by simpa using h1) w'
      simp only [execOp, hv, e1, hr.evv hy, Sem.run_bind, hrun, eptr, Result.andThen_ok, Sem.run_pure]
theorem q_idx_intss {t e : TypeId} [ht : TSlice P t e] [he : TCell P e] {x y : Operand} {xss : List (List Int)} {i : Int} (hx : AV.ev env x = .intss xss) (hy : AV.ev env y = .i i) (h0 : 0 ≤ i) (h1 : i < xss.length) :
    QOp P wl ⟨d, .indexAddr t x y, ty, pos, af, g⟩ env os (.iiptr xss i) :=
  .of_run fun _ w gs tm hr => by
    have h := hr.ev x
    rw [hx] at h
    generalize hv : Act.eval ⟨tm, []⟩ x = v at h
    cases h with
    | intss hxs =>
      refine ⟨_, .iiptr hxs h0 h1, fun w' _ => ?_⟩
      obtain ⟨vs, ⟨p, cap, e1, _, _, h3⟩, hl, _⟩ := hxs
      obtain ⟨b, off, rfl, _⟩ := h3 (by omega)
      obtain ⟨ie, hi, hs⟩ := he.info
      have hrun := run_idx ht.und hi hs ⟨b, off, none⟩ vs.length cap i h0 (by omega) w'
      simp only [execOp, hv, e1, hr.evv hy, Sem.run_bind, hrun, eptr, Result.andThen_ok, Sem.run_pure]

theorem run_load_cell {t : TypeId} [ht : TCell P t] {a : Addr} {u : Value} {w : World} (hc : w.cell? a = some u) : (Instr.loadAt t (.pointer (some a))).run P w = .ok u w := by
  obtain ⟨dd, hu, hd⟩ := ht.und
  have hagg : (isAgg t).run P w = .ok false w := by
    unfold isAgg
    rw [Sem.run_bind, run_underlying hu w]
    cases dd <;> simp_all
  simp [Instr.loadAt, Instr.sureAddr, loadVar, hagg, hc]

theorem below_cell {w w' : World} (hw : Below w.heap.size w w') {a : Addr} {u : Value} (hc : w.cell? a = some u) : w'.cell? a = some u := by
  rw [hw.cell (World.block_lt_of_cell? w a hc)]; exact hc

theorem add_none (b o n : Nat) : (⟨b, o, none⟩ : Addr).add n = ⟨b, o + n, none⟩ := by unfold Addr.add; split <;> simp_all

theorem q_load_iptr {t : TypeId} [ht : TCell P t] {x : Operand} {xs : List Int} {i : Int} (hx : AV.ev env x = .iptr xs i) : QOp P false ⟨d, .load t x, ty, pos, af, g⟩ env os (.i (geti xs i)) :=
  .of_runb fun _ w gs tm hr => by
    have h := hr.ev x
    rw [hx] at h
    generalize hv : Act.eval ⟨tm, []⟩ x = v at h
    cases h with
    | @iptr v _ _ hxs h0 h1 =>
      refine ⟨_, .val _, fun w' hw' => ?_⟩
      obtain ⟨⟨p, cap, e1, _, _, h3⟩, _⟩ := hxs
      obtain ⟨b, off, rfl, _, hc⟩ := h3 (by simp; omega)
      have hlt : i.toNat < xs.length := by omega
      have hcell := below_cell hw' (hc i.toNat (.int .i64 (geti xs i)) (by simp [geti, hlt]))
      simp only [execOp, hv, e1, eptr, add_none, Sem.run_bind, run_load_cell hcell, Result.andThen_ok, Sem.run_pure]
theorem q_load_iiptr {t : TypeId} [ht : TCell P t] {x : Operand} {xss : List (List Int)} {i : Int} (hx : AV.ev env x = .iiptr xss i) : QOp P false ⟨d, .load t x, ty, pos, af, g⟩ env os (.ints (gets xss i)) :=
  .of_runb fun _ w gs tm hr => by
    have h := hr.ev x
    rw [hx] at h
    generalize hv : Act.eval ⟨tm, []⟩ x = v at h
    cases h with
    | @iiptr v _ _ hxs h0 h1 =>
      obtain ⟨vs, ⟨p, cap, e1, _, _, h3⟩, hl, hrow⟩ := hxs
      obtain ⟨b, off, rfl, _, hc⟩ := h3 (by omega)
      have hlt : i.toNat < vs.length := by omega
      have hrw := hrow i.toNat _ (List.getElem?_eq_getElem hlt)
      refine ⟨_, .ints hrw, fun w' hw' => ?_⟩
      have hcell := below_cell hw' (hc i.toNat _ (List.getElem?_eq_getElem hlt))
      simp only [execOp, hv, e1, eptr, add_none, Sem.run_bind, run_load_cell hcell, Result.andThen_ok, Sem.run_pure]

/-! ### Indexes and loads of the call's own memory -/
/-- What is known of a handle's slice. -/
theorem own_slice {w : World} {base : Nat} {e : TypeId} {v : Value} {n : Nat} {vs : List Value} (h : w.ownsRow base e 1 v n vs) {i : Nat} (hi : i < vs.length) :
    ∃ b cap, v = .slice (some ⟨b, 0, none⟩) n cap ∧ v.ownBlock = some b ∧ w.cell? ⟨b, i, none⟩ = vs[i]? ∧ w.frozen? ⟨b, i, none⟩ = false := by
  have hlen := h.1
  rcases h.2 with ⟨rfl, rfl⟩ | ⟨b, cap, cur, rfl, r⟩
  · simp at hlen; subst hlen; simp at hi
  · have h' : w.ownsRow base e 1 (.slice (some ⟨b, 0, none⟩) n cap) n vs := ⟨hlen, .inr ⟨b, cap, cur, rfl, r⟩⟩
    exact ⟨b, cap, rfl, rfl, h'.cellAt i (by omega), h'.frozenAt i⟩

theorem GB.eq {g : Gh} (h : GB g) {b : Nat} (hb : g.v.ownBlock = some b) : g.b = b := by
  rcases h with ⟨h1, _⟩ | ⟨h1, _⟩
  · rw [h1] at hb; cases hb
  · rw [h1] at hb; cases hb; rfl

/-- The cells of an object that is a slice, and where they lie. -/
inductive IsSl (os : List AO) (h : Nat) : Nat → Prop
  | sli {e : TypeId} {xs : List Int} : os[h]? = some (.sli e xs) → IsSl os h xs.length
  | slr {e : TypeId} {avs : List AV} : os[h]? = some (.slr e avs) → IsSl os h avs.length
  | sls {e e2 : TypeId} {xss : List (List Int)} : os[h]? = some (.sls e e2 xss) → IsSl os h xss.length

theorem IsSl.at {base : Nat} {w : World} {gs : List Gh} {tm : Array Value} (hr : Rel base w gs env os tm) {h n : Nat} (hs : IsSl os h n) {gh : Gh} (hg : gs[h]? = some gh) {i : Nat} (hi : i < n) :
    ∃ cap, gh.v = .slice (some ⟨gh.b, 0, none⟩) n cap := by
  cases hs with
  | sli ho =>
    obtain ⟨a1, a2, a3⟩ := hr.ho _ _ _ hg ho
    obtain ⟨b, cap, e1, e2, _⟩ := own_slice a1 (i := i) (by simpa using hi)
    rw [a3.eq e2]; exact ⟨cap, e1⟩
  | slr ho =>
    obtain ⟨vs, a1, a2, a3, a4⟩ := hr.ho _ _ _ hg ho
    obtain ⟨b, cap, e1, e2, _⟩ := own_slice a1 (i := i) (by omega)
    rw [a4.eq e2, ← a2]; exact ⟨cap, e1⟩
  | sls ho =>
    obtain ⟨vs, bs, mb, a1, a2, a3, a4, a5, a6, _⟩ := hr.ho _ _ _ hg ho
    obtain ⟨b, cap, e1, e2, _⟩ := own_slice a1 (i := i) (by omega)
    have : gh.b = b := by
      rcases a6 with ⟨h1, _⟩ | ⟨h1, _⟩
      · rw [h1] at e2; cases e2
      · rw [h1] at e2; cases e2; rfl
    rw [this, ← a2]; exact ⟨cap, e1⟩

theorem q_idx_own {t e : TypeId} [ht : TSlice P t e] [he : TCell P e] {x y : Operand} {h n : Nat} {i : Int} (hx : AV.ev env x = .own h) (hs : IsSl os h n) (hy : AV.ev env y = .i i) (h0 : 0 ≤ i) (h1 : i < n) :
    QOp P wl ⟨d, .indexAddr t x y, ty, pos, af, g⟩ env os (.optr h i.toNat) :=
  .of_run fun _ w gs tm hr => by
    have hh := hr.ev x
    rw [hx] at hh
    generalize hv : Act.eval ⟨tm, []⟩ x = v at hh
    cases hh with
    | @own _ gh hg =>
      refine ⟨_, .optr hg, fun w' _ => ?_⟩
      obtain ⟨cap, e1⟩ := hs.at hr hg (i := i.toNat) (by omega)
      obtain ⟨ie, hi, hs1⟩ := he.info
      have hrun := run_idx ht.und hi hs1 ⟨gh.b, 0, none⟩ n cap i h0 h1 w'
      simp only [execOp, hv, e1, hr.evv hy, Sem.run_bind, hrun, add_none, Nat.zero_add, Result.andThen_ok, Sem.run_pure]

theorem q_idx_orow {t e : TypeId} [ht : TSlice P t e] [he : TCell P e] {x y : Operand} {h j : Nat} {te te2 : TypeId} {xss : List (List Int)} {i : Int} (hx : AV.ev env x = .orow h j) (hs : os[h]? = some (.sls te te2 xss)) (hy : AV.ev env y = .i i)
    (h0 : 0 ≤ i) (h1 : i < (xss.getD j []).length) : QOp P wl ⟨d, .indexAddr t x y, ty, pos, af, g⟩ env os (.orptr h j i.toNat) :=
  .of_run fun _ w gs tm hr => by
    have hh := hr.ev x
    rw [hx] at hh
    generalize hv : Act.eval ⟨tm, []⟩ x = v at hh
    cases hh with
    | orow hg hrow =>
      have hrow' := hrow
      obtain ⟨vs, bs, mb, a1, a2, a3, a4, a5, _⟩ := hr.ho _ _ _ hg hs
      rw [a4] at hrow'
      obtain ⟨r1, _⟩ := a5 _ _ hrow'
      obtain ⟨b, cap, e1, _⟩ := own_slice r1 (i := i.toNat) (by rw [List.length_map]; omega)
      rw [e1] at hrow
      refine ⟨_, .orptr hg hrow, fun w' _ => ?_⟩
      obtain ⟨ie, hi, hs1⟩ := he.info
      have hrun := run_idx ht.und hi hs1 ⟨b, 0, none⟩ _ cap i h0 h1 w'
      simp only [execOp, hv, e1, hr.evv hy, Sem.run_bind, hrun, add_none, Nat.zero_add, Result.andThen_ok, Sem.run_pure]

theorem q_load_sli {t : TypeId} [ht : TCell P t] {x : Operand} {h i : Nat} {e : TypeId} {xs : List Int} (hx : AV.ev env x = .optr h i) (hs : os[h]? = some (.sli e xs)) (hi : i < xs.length) :
    QOp P false ⟨d, .load t x, ty, pos, af, g⟩ env os (.i (geti xs i)) :=
  .of_runb fun _ w gs tm hr => by
    have hh := hr.ev x
    rw [hx] at hh
    generalize hv : Act.eval ⟨tm, []⟩ x = v at hh
    cases hh with
    | optr hg =>
      refine ⟨_, .val _, fun w' hw' => ?_⟩
      obtain ⟨a1, a2, a3⟩ := hr.ho _ _ _ hg hs
      obtain ⟨b, cap, e1, e2, e3, _⟩ := own_slice a1 (i := i) (by simpa using hi)
      rw [a3.eq e2] at hv
      have hcell := below_cell hw' (u := .int .i64 (geti xs i)) (by rw [e3]; simp [geti, hi])
      simp only [execOp, hv, Sem.run_bind, run_load_cell hcell, Result.andThen_ok, Sem.run_pure]
theorem q_load_slr {t : TypeId} [ht : TCell P t] {x : Operand} {h i : Nat} {e : TypeId} {avs : List AV} {a : AV} (hx : AV.ev env x = .optr h i) (hs : os[h]? = some (.slr e avs)) (hi : avs[i]? = some a) :
    QOp P false ⟨d, .load t x, ty, pos, af, g⟩ env os a :=
  .of_runb fun _ w gs tm hr => by
    have hh := hr.ev x
    rw [hx] at hh
    generalize hv : Act.eval ⟨tm, []⟩ x = v at hh
    cases hh with
    | optr hg =>
      obtain ⟨vs, a1, a2, a3, a4⟩ := hr.ho _ _ _ hg hs
      have hiv : i < vs.length := by have := (List.getElem?_eq_some_iff.1 hi).1; omega
      have hrv := a3 i
      rw [List.getD_eq_getElem?_getD, List.getElem?_eq_getElem hiv, List.getD_eq_getElem?_getD, hi] at hrv
      simp only [Option.getD_some] at hrv
      refine ⟨_, hrv, fun w' hw' => ?_⟩
      obtain ⟨b, cap, e1, e2, e3, _⟩ := own_slice a1 (i := i) hiv
      rw [a4.eq e2] at hv
      have hcell := below_cell hw' (e3.trans (List.getElem?_eq_getElem hiv))
      simp only [execOp, hv, Sem.run_bind, run_load_cell hcell, Result.andThen_ok, Sem.run_pure]
theorem q_load_sls {t : TypeId} [ht : TCell P t] {x : Operand} {h i : Nat} {e e2 : TypeId} {xss : List (List Int)} (hx : AV.ev env x = .optr h i) (hs : os[h]? = some (.sls e e2 xss)) (hi : i < xss.length) :
    QOp P false ⟨d, .load t x, ty, pos, af, g⟩ env os (.orow h i) :=
  .of_runb fun _ w gs tm hr => by
    have hh := hr.ev x
    rw [hx] at hh
    generalize hv : Act.eval ⟨tm, []⟩ x = v at hh
    cases hh with
    | @optr _ _ gh hg =>
      obtain ⟨vs, bs, mb, a1, a2, a3, a4, a5, a6, _⟩ := hr.ho _ _ _ hg hs
      have hiv : i < vs.length := by omega
      refine ⟨vs[i], .orow hg (by rw [a4]; exact List.getElem?_eq_getElem hiv), fun w' hw' => ?_⟩
      obtain ⟨b, cap, e1, e2', e3, _⟩ := own_slice a1 (i := i) hiv
      have : gh.b = b := by
        rcases a6 with ⟨h1, _⟩ | ⟨h1, _⟩
        · rw [h1] at e2'; cases e2'
        · rw [h1] at e2'; cases e2'; rfl
      rw [this] at hv
      have hcell := below_cell hw' (e3.trans (List.getElem?_eq_getElem hiv))
      simp only [execOp, hv, Sem.run_bind, run_load_cell hcell, Result.andThen_ok, Sem.run_pure]
theorem q_load_orptr {t : TypeId} [ht : TCell P t] {x : Operand} {h i j : Nat} {e e2 : TypeId} {xss : List (List Int)} (hx : AV.ev env x = .orptr h i j) (hs : os[h]? = some (.sls e e2 xss)) (hj : j < (xss.getD i []).length) :
    QOp P false ⟨d, .load t x, ty, pos, af, g⟩ env os (.i (geti (xss.getD i []) j)) :=
  .of_runb fun _ w gs tm hr => by
    have hh := hr.ev x
    rw [hx] at hh
    generalize hv : Act.eval ⟨tm, []⟩ x = v at hh
    cases hh with
    | @orptr _ _ _ blk n c gh hg hrow =>
      obtain ⟨vs, bs, mb, a1, a2, a3, a4, a5, a6, _⟩ := hr.ho _ _ _ hg hs
      rw [a4] at hrow
      obtain ⟨r1, _⟩ := a5 _ _ hrow
      obtain ⟨b, cap, e1, e2', e3, _⟩ := own_slice r1 (i := j) (by simpa using hj)
      simp only [Value.slice.injEq, Option.some.injEq, Addr.mk.injEq, and_true] at e1
      obtain ⟨rfl, _, _⟩ := e1
      refine ⟨_, .val _, fun w' hw' => ?_⟩
      have hcell := below_cell hw' (u := .int .i64 (geti (xss.getD i []) j)) (by rw [e3]; generalize xss.getD i [] = row at hj ⊢; simp [geti, hj])
      simp only [execOp, hv, Sem.run_bind, run_load_cell hcell, Result.andThen_ok, Sem.run_pure]

/-- A cell of a variable. -/
theorem q_load_bx {t : TypeId} [ht : TCell P t] {x : Operand} {h i : Nat} {T : TypeId} {avs : List AV} (hx : AV.ev env x = .optr h i) (hs : os[h]? = some (.bx T avs)) (hi : i < avs.length) :
    QOp P false ⟨d, .load t x, ty, pos, af, g⟩ env os (avs.getD i .any) :=
  .of_runb fun _ w gs tm hr => by
    have hh := hr.ev x
    rw [hx] at hh
    generalize hv : Act.eval ⟨tm, []⟩ x = v at hh
    cases hh with
    | optr hg =>
      obtain ⟨cs, a1, a2, a3, a4, a5, a6, a7⟩ := hr.ho _ _ _ hg hs
      refine ⟨_, a7 i, fun w' hw' => ?_⟩
      have hi' : i < cs.length := by omega
      have hcell := below_cell hw' (u := cs.getD i undef) (by rw [cell_of_row w _ i _ T (0, 0) a1]; simp [List.getD_eq_getElem?_getD, hi'])
      simp only [execOp, hv, Sem.run_bind, run_load_cell hcell, Result.andThen_ok, Sem.run_pure]
/-- A whole variable of a struct's type. -/
theorem q_load_str {t : TypeId} {n : Nat} {zs : List Value} [ht : TStruct P t n zs] {x : Operand} {h : Nat} {T : TypeId} {avs : List AV} (hx : AV.ev env x = .optr h 0) (hs : os[h]? = some (.bx T avs)) (hn : avs.length = n) :
    QOp P false ⟨d, .load t x, ty, pos, af, g⟩ env os (.agg avs) :=
  .of_runb fun _ w gs tm hr => by
    have hh := hr.ev x
    rw [hx] at hh
    generalize hv : Act.eval ⟨tm, []⟩ x = v at hh
    cases hh with
    | optr hg =>
      obtain ⟨cs, a1, a2, a3, a4, a5, a6, a7⟩ := hr.ho _ _ _ hg hs
      refine ⟨_, .agg a5 a6 a7, fun w' hw' => ?_⟩
      obtain ⟨fs, hu, hag⟩ := ht.und
      obtain ⟨ii, hi, hsz, _⟩ := ht.info
      have hblk := (hw'.block _ (Array.getElem?_eq_some_iff.1 a1).1).trans a1
      have := run_loadVar_row (P := P) w' _ T t cs.toArray (0, 0) _ hblk hu (by cases fs <;> first | rfl | (simp at hag)) (by rw [hi]; simp [hsz, a5, hn])
      simp only [execOp, hv, Instr.loadAt, Instr.sureAddr, Sem.run_bind, Sem.run_pure, Result.andThen_ok, this]
theorem q_fieldAddr {t : TypeId} {f off : Nat} [ht : TField P t f off] {x : Operand} {h i : Nat} (hx : AV.ev env x = .optr h i) : QOp P wl ⟨d, .fieldAddr t x f, ty, pos, af, g⟩ env os (.optr h (i + off)) :=
  .of_run fun _ w gs tm hr => by
    have hh := hr.ev x
    rw [hx] at hh
    generalize hv : Act.eval ⟨tm, []⟩ x = v at hh
    cases hh with
    | optr hg =>
      refine ⟨_, .optr hg, fun w' hw' => ?_⟩
      obtain ⟨fs, fd, ii, h1, h2, h3, h4, h5, _⟩ := ht.fld
      simp [execOp, hv, Instr.fieldAt, run_underlying h1, h2, Instr.sureAddr, fieldPlace, sizeOf, typeInfo, h4, h5, h3, add_none]
theorem q_field {t : TypeId} {f off : Nat} [ht : TField P t f off] {x : Operand} {l : List AV} (hx : AV.ev env x = .agg l) (ho : off < l.length) : QOp P wl ⟨d, .field t x f, ty, pos, af, g⟩ env os (l.getD off .any) :=
  .of_run fun _ w gs tm hr => by
    have hh := hr.ev x
    rw [hx] at hh
    generalize hv : Act.eval ⟨tm, []⟩ x = v at hh
    cases hh with
    | @agg vs _ a1 _ a2 =>
      refine ⟨_, a2 off, fun w' hw' => ?_⟩
      obtain ⟨fs, fd, ii, h1, h2, h3, h4, h5, dd, h6, h7⟩ := ht.fld
      have hagg : (isAgg fd.type).run P w' = .ok false w' := by
        unfold isAgg
        rw [Sem.run_bind, run_underlying h6 w']
        cases dd <;> simp_all
      have hlt : off < vs.length := by omega
      simp [execOp, hv, Instr.field, run_underlying h1, h2, asAgg, part, hagg, h3, hlt, List.getD_eq_getElem?_getD]
end

end Go.Proofs.YtfgnccoaebkckaaDoor
