/-
  Maps from pairs of integers to integers: made, read, written, walked in whatever order. No condition.
-/
import Derived.Test.YtpllbdjobmgikaaAmMore11
import Derived.Maps.RangeRun
import Derived.ChangeKeysEq
import GoSem.Instr.MapUpdate
import GoSem.Instr.MakeMap
namespace Go.Proofs.Ytpllbdjobmgikaa
open Go Go.RowKit
open Go.ChangeMaps (setBlock)

def mkey (i j : Int) : Value := .agg #[.int .i64 i, .int .i64 j]
/-- Pairs of integers as keys. -/
class TPair (P : Program) (kt : TypeId) (e : outParam TypeId) : Prop where
  hk : P.underlying kt = some (.array 2 e)
  he : P.underlying e = some (.int .i64)
  hi : ∃ ii, P.info? e = some ii
  hs : P.cellsOf e = 1
instance {P : Program} {kt e : TypeId} [h : TArr P kt e 2] [q : TKind P e .i64] : TPair P kt e := ⟨h.und, q.und, let ⟨i, h1, _⟩ := h.elm; ⟨i, h1⟩, by obtain ⟨i, h1, h2⟩ := h.elm; simp [Program.cellsOf, h1, h2]⟩
variable {P : Program}
theorem run_part2 {kt e : TypeId} [t : TPair P kt e] (i j : Int) (w : World) : (part e #[.int .i64 i, .int .i64 j] (0 * 1)).run P w = .ok (.int .i64 i) w ∧ (part e #[.int .i64 i, .int .i64 j] (1 * 1)).run P w = .ok (.int .i64 j) w := by
  have hp : P.plainKey e = true := by simp [Program.plainKey, t.he]
  exact ⟨run_part_plain w hp rfl, run_part_plain w hp rfl⟩
theorem run_eqk {kt e : TypeId} [t : TPair P kt e] (i j a b : Int) (w : World) : (Op.equal kt (mkey i j) (mkey a b)).run P w = .ok (decide (i = a ∧ j = b)) w := by
  have pt := run_part2 (P := P) (kt := kt) (e := e)
  obtain ⟨hk, he, ⟨ii, hi⟩, hs⟩ := t
  have q : ∀ x y : Int, (Op.equalIn 9999 e (.int .i64 x) (.int .i64 y)).run P w = .ok (decide (x = y)) w := fun x y => by
    rw [show (9999 : Nat) = 9998 + 1 from rfl]
    unfold Op.equalIn
    simp only [Sem.run_bind, run_underlying he, Result.andThen_ok, if_true, Sem.run_pure]
    rfl
  unfold Op.equal
  rw [show Op.maxDepth = 9999 + 1 from rfl, mkey, mkey, run_equalIn_array w 9999 _ _ hk hi, hs]
  simp only [show List.range 2 = [0, 1] from rfl, Op.eqItems, Sem.run_bind]
  rw [(pt i j w).1, Result.andThen_ok, (pt a b w).1, Result.andThen_ok, q, Result.andThen_ok]
  by_cases h : i = a
  · simp only [h, decide_true, Bool.not_true, Bool.false_eq_true, if_false, Sem.run_bind, true_and]
    rw [(pt a j w).2, Result.andThen_ok, (pt a b w).2, Result.andThen_ok, q, Result.andThen_ok]
    by_cases h2 : j = b <;> simp [h2]
  · simp [h]
theorem run_checkk {kt e : TypeId} [t : TPair P kt e] (c : Bool) (i j : Int) (w : World) : (Instr.checkKey c 10000 kt (mkey i j)).run P w = .ok () w := by
  have pt := run_part2 (P := P) (kt := kt) (e := e)
  obtain ⟨hk, he, ⟨ii, hi⟩, hs⟩ := t
  have q : ∀ x : Int, (Instr.checkKey c 9999 e (.int .i64 x)).run P w = .ok () w := fun x => by
    rw [show (9999 : Nat) = 9998 + 1 from rfl]
    unfold Instr.checkKey
    simp only [Sem.run_bind, run_underlying he, Result.andThen_ok, Sem.run_pure]
  rw [show (10000 : Nat) = 9999 + 1 from rfl]
  unfold Instr.checkKey
  simp only [mkey, Sem.run_bind, run_underlying hk, Result.andThen_ok, Std.Legacy.Range.forIn_eq_forIn_range', Std.Legacy.Range.size, Nat.sub_zero, Nat.add_one_sub_one, Nat.div_one]
  simp only [show List.range' 0 2 = [0, 1] from rfl, List.forIn_cons, List.forIn_nil, Sem.run_bind, run_sizeOf w hi, Result.andThen_ok, hs]
  rw [(pt i j w).1, Result.andThen_ok, q, Result.andThen_ok]
  simp only [Sem.run_bind, Sem.run_pure, Result.andThen_ok, run_sizeOf w hi, hs]
  rw [(pt i j w).2, Result.andThen_ok, q, Result.andThen_ok]
  simp only [Sem.run_pure, Result.andThen_ok]

/-! ### Maps from pairs to integers, as lists of triples in the order of their first writing -/
def entT (t : Int × Int × Int) : Value × Value := (mkey t.1 t.2.1, .int .i64 t.2.2)
def MapIs (es : Array MapEntry) (clock : Nat) (L : List (Int × Int × Int)) : Prop :=
  es.toList.map (fun e => (e.key, e.val)) = L.map entT ∧ (∀ e ∈ es.toList, e.born < clock) ∧ (es.toList.map (·.born)).Nodup
def isK (i j : Int) (t : Int × Int × Int) : Bool := decide (i = t.1 ∧ j = t.2.1)
def putM (L : List (Int × Int × Int)) (i j c : Int) : List (Int × Int × Int) := match L.findIdx? (isK i j) with | some k => L.set k (i, j, c) | none => L ++ [(i, j, c)]
def lookM (L : List (Int × Int × Int)) (i j : Int) : Int := match L.find? (isK i j) with | some t => t.2.2 | none => 0

theorem run_findk {kt e : TypeId} [t : TPair P kt e] (i j : Int) (w : World) : ∀ (es : List MapEntry) (L : List (Int × Int × Int)) (n : Nat), es.map (fun e => (e.key, e.val)) = L.map entT →
    (Instr.findAsking kt (mkey i j) es n).run P w = .ok (match L.findIdx? (isK i j) with | some k => some (n + k, .int .i64 (L.getD k (0, 0, 0)).2.2) | none => none) w
  | [], [], n, _ => by simp [Instr.findAsking]
  | [], _ :: _, n, h => by simp at h
  | _ :: _, [], n, h => by simp at h
  | x :: es, y :: L, n, h => by
    simp only [List.map_cons, List.cons.injEq, entT, Prod.mk.injEq] at h
    obtain ⟨⟨h1, h2⟩, h3⟩ := h
    have ih := run_findk (t := t) i j w es L (n + 1) h3
    simp only [Instr.findAsking, Sem.run_bind, h1, run_eqk (P := P) (kt := kt), Result.andThen_ok, List.findIdx?_cons]
    by_cases hq : i = y.1 ∧ j = y.2.1
    · simp [isK, hq, h2]
    · simp only [hq, decide_false, Bool.false_eq_true, if_false, ih, isK]
      cases L.findIdx? (isK i j) with
      | none => rfl
      | some k => simp [Nat.add_comm, Nat.add_left_comm]
theorem run_findKey {kt e : TypeId} [t : TPair P kt e] (i j : Int) (w : World) (es : List MapEntry) (L : List (Int × Int × Int)) (h : es.map (fun e => (e.key, e.val)) = L.map entT) :
    (Instr.findKey kt (mkey i j) es).run P w = .ok (match L.findIdx? (isK i j) with | some k => some (k, .int .i64 (L.getD k (0, 0, 0)).2.2) | none => none) w := by
  have hf := run_findk (P := P) (kt := kt) i j w es L 0 h
  simp only [Nat.zero_add] at hf
  unfold Instr.findKey
  simp only [Sem.run_bind, run_underlying t.hk, Result.andThen_ok]
  cases es with
  | nil =>
    cases L with
    | nil => simp [Instr.findNow]
    | cons => simp at h
  | cons x es =>
    have e1 : Instr.findNow (.array 2 e) (mkey i j) (x :: es) 0 = none := by simp [Instr.findNow, Instr.sameNow]
    simp only [e1]
    exact hf

theorem keys_get {es : Array MapEntry} {L : List (Int × Int × Int)} (h : es.toList.map (fun e => (e.key, e.val)) = L.map entT) (k : Nat) (hk : k < L.length) :
    ∃ x, es[k]? = some x ∧ x.key = mkey (L.getD k (0, 0, 0)).1 (L.getD k (0, 0, 0)).2.1 ∧ x.val = .int .i64 (L.getD k (0, 0, 0)).2.2 := by
  have h1 := congrArg (·[k]?) h
  simp only [List.getElem?_map, List.getElem?_eq_getElem hk, Option.map_some, Array.getElem?_toList] at h1
  cases hx : es[k]? with
  | none => rw [hx] at h1; simp at h1
  | some x =>
    rw [hx] at h1
    simp only [Option.map_some, Option.some.injEq, entT, Prod.mk.injEq] at h1
    exact ⟨x, rfl, by rw [h1.1]; simp [List.getD_eq_getElem?_getD, hk], by rw [h1.2]; simp [List.getD_eq_getElem?_getD, hk]⟩
theorem size_of {es : Array MapEntry} {L : List (Int × Int × Int)} (h : es.toList.map (fun e => (e.key, e.val)) = L.map entT) : es.size = L.length := by
  have := congrArg List.length h
  simpa using this

theorem run_setmap {w : World} {r : Nat} {es : Array MapEntry} {c : Nat} (hr : w.heap[r]? = some (.map es c)) (o' : Obj) : (setObj r o').run P w = .ok () (setBlock w r o') := by
  simp [setObj, Sem.run, hr, setBlock]
theorem same_key (i j : Int) : Instr.sameBits 10000 (mkey i j) (mkey i j) = true := by
  rw [show (10000 : Nat) = 9999 + 1 from rfl]
  unfold Instr.sameBits mkey
  simp [Instr.sameBits]

theorem run_mapset {T kt e ve : TypeId} [hT : TMap P T kt ve] [TPair P kt e] (w : World) (r : Nat) (es : Array MapEntry) (clock : Nat) (L : List (Int × Int × Int)) (hb : w.heap[r]? = some (.map es clock)) (hM : MapIs es clock L) (i j c : Int) :
    ∃ es' clock', (Instr.mapUpdate T (.map (some r)) (mkey i j) (.int .i64 c)).run P w = .ok () (setBlock w r (.map es' clock')) ∧ MapIs es' clock' (putM L i j c) := by
  have hf := run_findKey (P := P) (kt := kt) i j w es.toList L hM.1
  unfold Instr.mapUpdate
  simp only [Sem.run_bind, run_underlying hT.und, Result.andThen_ok, MapKept.run_getObj_map hb, run_checkk (P := P) (kt := kt), hf]
  cases hq : L.findIdx? (isK i j) with
  | none =>
    refine ⟨es.push ⟨mkey i j, .int .i64 c, clock⟩, clock + 1, ?_, ?_⟩
    · exact run_setmap hb _
    · obtain ⟨h1, h2, h3⟩ := hM
      refine ⟨?_, ?_, ?_⟩
      · unfold putM; rw [hq]
        simp [h1, entT]
      · intro x hx
        simp only [Array.toList_push, List.mem_append, List.mem_singleton] at hx
        rcases hx with hx | rfl
        · exact Nat.lt_succ_of_lt (h2 x hx)
        · exact Nat.lt_succ_self _
      · simp only [Array.toList_push, List.map_append, List.map_cons, List.map_nil]
        refine List.nodup_append.2 ⟨h3, by simp, ?_⟩
        intro a ha b hb
        simp only [List.mem_singleton] at hb
        subst hb
        obtain ⟨x, hx, rfl⟩ := List.mem_map.1 ha
        exact Nat.ne_of_lt (h2 x hx)
  | some k =>
    obtain ⟨hk, hik, _⟩ := List.findIdx?_eq_some_iff_getElem.1 hq
    obtain ⟨h1, h2, h3⟩ := hM
    obtain ⟨x, hx, hx1, hx2⟩ := keys_get h1 k hk
    have e1 : L.getD k (0, 0, 0) = L[k] := by simp [List.getD_eq_getElem?_getD, hk]
    simp only [isK, decide_eq_true_eq] at hik
    have e2 : x.key = mkey i j := by rw [hx1, e1, ← hik.1, ← hik.2]
    refine ⟨es.modify k fun e => { e with key := mkey i j, val := .int .i64 c }, clock, ?_, ?_⟩
    · simp only [hx, Option.map_some, Option.getD_some, e2, Instr.keyThatStays, same_key, if_true]
      exact run_setmap hb _
    · have hborn : (es.modify k fun e => { e with key := mkey i j, val := .int .i64 c }).toList.map (·.born) = es.toList.map (·.born) := by
        apply List.ext_getElem?
        intro m
        simp only [List.getElem?_map, Array.getElem?_toList, Array.getElem?_modify]
        split
        · cases es[m]? <;> rfl
        · rfl
      refine ⟨?_, ?_, ?_⟩
      · apply List.ext_getElem?
        intro m
        have hm := congrArg (·[m]?) h1
        simp only [List.getElem?_map, Array.getElem?_toList] at hm
        unfold putM; rw [hq]
        simp only [List.getElem?_map, Array.getElem?_toList, Array.getElem?_modify, List.getElem?_set]
        by_cases e : k = m
        · subst e
          simp [hx, hk, entT]
        · simp only [e, if_false]
          exact hm
      · intro y hy
        have : y.born ∈ es.toList.map (·.born) := by rw [← hborn]; exact List.mem_map_of_mem hy
        obtain ⟨z, hz, e⟩ := List.mem_map.1 this
        rw [← e]; exact h2 z hz
      · rw [hborn]; exact h3

theorem run_maplook {T kt e ve : TypeId} {b : Nat} [hT : TMap P T kt ve] [TPair P kt e] [hz : TElem P ve (.int .i64 0) b] (w : World) (r : Nat) (es : Array MapEntry) (clock : Nat) (L : List (Int × Int × Int)) (hb : w.heap[r]? = some (.map es clock)) (hM : MapIs es clock L) (i j : Int) :
    (Instr.lookup T (.map (some r)) (mkey i j) false).run P w = .ok (.int .i64 (lookM L i j)) w := by
  have hf := run_findKey (P := P) (kt := kt) i j w es.toList L hM.1
  obtain ⟨ii, hi, _, hzz, _⟩ := hz.info
  unfold Instr.lookup
  simp only [Sem.run_bind, run_underlying hT.und, Result.andThen_ok, MapKept.run_getObj_map hb, Sem.run_pure, run_checkk (P := P) (kt := kt), hf]
  unfold lookM
  cases hq : L.findIdx? (isK i j) with
  | none =>
    have e1 : L.find? (isK i j) = none := by
      rw [List.find?_eq_none]; intro t ht
      rw [List.findIdx?_eq_none_iff] at hq
      simp [hq t ht]
    simp [e1, zeroValue, typeInfo, hi, hzz]
  | some k =>
    have e1 : L.find? (isK i j) = some (L.getD k (0, 0, 0)) := by
      obtain ⟨hk, hik, hlt⟩ := List.findIdx?_eq_some_iff_getElem.1 hq
      rw [List.find?_eq_some_iff_getElem]
      refine ⟨by simpa [List.getD_eq_getElem?_getD, hk] using hik, k, hk, by simp [List.getD_eq_getElem?_getD, hk], fun j hj => ?_⟩
      have := hlt j hj
      simpa using this
    simp [e1]

/-! ### As objects, and as what is only read -/
def mapOb (L : List (Int × Int × Int)) : Ob := ob1 (fun b => .map (some b)) (fun o => ∃ es clock, o = .map es clock ∧ MapIs es clock L) fun _ => ⟨rfl, rfl⟩
def mapRo (L : List (Int × Int × Int)) : Ro where
  p w ok v := ∃ b es clock, v = .map (some b) ∧ ok b ∧ w.heap[b]? = some (.map es clock) ∧ MapIs es clock L
  up k h := by
    obtain ⟨b, es, clock, h1, h2, h3, h4⟩ := h
    have := k b h2 (Array.getElem?_eq_some_iff.1 h3).1
    exact ⟨b, es, clock, h1, this.1, this.2.trans h3, h4⟩
def mapAt (b : Nat) (es : Array MapEntry) (clock : Nat) : Ro where
  p w ok v := v = .map (some b) ∧ ok b ∧ w.heap[b]? = some (.map es clock)
  up k h := by
    obtain ⟨h1, h2, h3⟩ := h
    have := k b h2 (Array.getElem?_eq_some_iff.1 h3).1
    exact ⟨h1, this.1, this.2.trans h3⟩
def bornAt (es : Array MapEntry) (i : Nat) : Nat := ((es[i]?).map (·.born)).getD 0
/-- An iterator over the map at b, which has handed out the entries 'done'. -/
def itOb (b : Nat) (es : Array MapEntry) (clock : Nat) (done : List Nat) : Ob :=
  ob1 (fun r => .pointer (some ⟨r, 0, none⟩)) (fun o => ∃ since c0 seen, o = .mapIter (some b) since seen c0 ∧ since ≤ c0 ∧ (∀ x ∈ es.toList, x.born < since) ∧ seen.toList = done.map (bornAt es) ∧ (done = [] ∨ c0 = clock) ∧ since ≤ clock) fun _ => ⟨rfl, rfl⟩

theorem reads_map {os : List AO} {h : Nat} {L : List (Int × Int × Int)} (hs : os[h]? = some (.ob (mapOb L))) : Reads os [h] (.own h) (mapRo L) := by
  intro base w gs ok hro hok _ v hv
  cases hv with
  | own hg =>
    obtain ⟨o, h1, ⟨es, clock, rfl, h2⟩, _, h4, h5⟩ := hro _ _ _ hg hs
    exact ⟨_, es, clock, h5, hok h (by simp) _ _ hg hs (by simp) _ (by simp [h4]), h1, h2⟩

/-- A slot may be seen otherwise. -/
theorem Rel.see {base : Nat} {w : World} {gs : List Gh} {env : Env} {os : List AO} {tm : Array Value} (h : Rel base w gs env os tm) {k : Nat} {a : AV} (ha : RV w (okOf gs os) gs (tm.getD k undef) a) : Rel base w gs (env.up k a) os tm where
  hb := h.hb
  hl := h.hl
  hs := by simpa [Env.up] using h.hs
  he i := by
    rw [Env.lk_up]
    split
    · rename_i hi; rw [hi.1]; exact ha
    · exact h.he i
  ho := h.ho
  hd := h.hd
  hn := h.hn

section
variable {P : Program} {wl : Bool} {env : Env} {os : List AO} {d : Option Tmp} {ty : TypeId} {pos : String} {af : Array Edge} {g : Option (Nat × Bool)}

theorem AWp.open {c : Code} {N : Env → List AO → Prop} {X : Nat → Env → List AO → Prop} {Rt : Env → List AO → Prop} (k : Nat) {L : List (Int × Int × Int)} (hk : env.fd k = some (.ro (mapRo L)))
    (h : ∀ b es clock, MapIs es clock L → AWp P c N X Rt (env.up k (.ro (mapAt b es clock))) os) : AWp P c N X Rt env os := by
  intro base w0 w gs tm hr
  have hv := hr.he k
  rw [Env.lk_of hk] at hv
  generalize hu : tm.getD k undef = u at hv
  cases hv with
  | ro h1 =>
    obtain ⟨b, es, clock, e1, e2, e3, hM⟩ := h1
    exact h b es clock hM base w0 w gs tm (hr.see (by rw [hu]; exact .ro ⟨e1, e2, e3⟩))

theorem Ret1.ob {h : Nat} {q : Ob} (hs : os[h]? = some (.ob q)) : Ret1 os (.own h) (.own 0) [.ob q] := fun base w gs env tm hr u hu => by
  cases hu with
  | @own _ g hg => exact ⟨[g], .one (hr.ho _ _ _ hg hs) fun b hb => hr.hn _ _ _ hg hs (by simp) b hb, .own rfl⟩

/-- A new object of one block. -/
theorem l_newob {o : Oper} {val : Nat → Value} {p : Obj → Prop} {one : ∀ b, (val b).oneCell' = true ∧ (val b).cells = #[val b]} {ob : Obj} (hq : p ob) (hrun : ∀ base w gs tm, Rel base w gs env os tm → (execOp (Act.eval ⟨tm, []⟩) o).run P w = .ok (.value (val w.heap.size)) (w.alloc ob)) :
    LOp P o env os (.own os.length) env (os ++ [.ob (ob1 val p one)]) := by
  intro base w gs tm hr
  have hbel := below_alloc w ob
  have hno : AO.ob (ob1 val p one) ≠ .dead → ∀ b, b ∈ [w.heap.size] → w.heap.size ≤ b ∧ b < (w.alloc ob).heap.size := fun _ b hb => by simp at hb; simp [hb]
  refine ⟨_, _, gs ++ [⟨val w.heap.size, w.heap.size, [w.heap.size], []⟩], .inl (hrun base w gs tm hr), hr.new hbel _ _ hno ?_, ?_, hbel.mono hr.hb⟩
  · exact ⟨ob, heap_alloc_new w _, hq, hr.hb, rfl, rfl⟩
  · have := RV.own (w := w.alloc ob) (ok := okOf (gs ++ [⟨val w.heap.size, w.heap.size, [w.heap.size], []⟩]) (os ++ [.ob (ob1 val p one)])) (len_new (gs := gs) (g := ⟨val w.heap.size, w.heap.size, [w.heap.size], []⟩))
    rw [hr.hl] at this
    exact this

theorem l_makemap {T : TypeId} : LOp P ⟨d, .makeMap T none, ty, pos, af, g⟩ env os (.own os.length) env (os ++ [.ob (mapOb [])]) :=
  l_newob (ob := .map #[] 0) ⟨#[], 0, rfl, by simp [MapIs]⟩ fun base w gs tm hr => by
    simp [execOp, Instr.makeMap]

theorem map_at {base : Nat} {w : World} {gs : List Gh} {tm : Array Value} (hr : Rel base w gs env os tm) {x : Operand} {b : Nat} {es : Array MapEntry} {clock : Nat} (hx : AV.ev env x = .ro (mapAt b es clock)) :
    Act.eval ⟨tm, []⟩ x = .map (some b) ∧ okOf gs os b ∧ w.heap[b]? = some (.map es clock) := by
  have h := hr.ev x
  rw [hx] at h
  generalize Act.eval ⟨tm, []⟩ x = v at h
  cases h with
  | ro h1 => exact h1

theorem setBlock_other (w : World) (r c : Nat) (o : Obj) (h : c ≠ r) : (setBlock w r o).heap[c]? = w.heap[c]? := by
  simp only [setBlock]
  rw [Array.getElem?_setIfInBounds, if_neg (fun e => h e.symm)]
theorem setBlock_same (w : World) (r : Nat) (o : Obj) (h : r < w.heap.size) : (setBlock w r o).heap[r]? = some o := by
  simp only [setBlock]
  rw [Array.getElem?_setIfInBounds, if_pos rfl, if_pos h]
theorem setBlock_below {w w1 : World} {base r : Nat} {o : Obj} (h1 : w1 = w ∨ w1 = w.drew) (hr : base ≤ r) : Below base w (setBlock w1 r o) := by
  have : Below base w w1 := by rcases h1 with rfl | rfl; exact Below.refl _ _; exact (Below.refl _ _).drew
  exact ⟨this.os, this.tape, this.output, by simpa [setBlock] using this.size, fun k hk => by rw [setBlock_other _ _ _ _ (by omega)]; exact this.block k hk⟩

theorem l_mapset {T kt e ve : TypeId} [TMap P T kt ve] [TPair P kt e] {m k v : Operand} {h : Nat} {L : List (Int × Int × Int)} {i j c : Int} (hm : AV.ev env m = .own h) (hs : os[h]? = some (.ob (mapOb L))) (hk : AV.ev env k = .agg [.i i, .i j]) (hv : AV.ev env v = .i c) :
    LOp P ⟨d, .mapUpdate T m k v, ty, pos, af, g⟩ env os .any env (os.set h (.ob (mapOb (putM L i j c)))) := by
  intro base w gs tm hr
  have hh := hr.ev m
  rw [hm] at hh
  have hkk := hr.ev k
  rw [hk] at hkk
  have ek : Act.eval ⟨tm, []⟩ k = mkey i j := by
    generalize Act.eval ⟨tm, []⟩ k = u at hkk
    cases hkk with
    | @agg vs _ a1 _ a3 =>
      match vs, a1 with
      | [x, y], _ =>
        have h0 := a3 0
        have h1 := a3 1
        simp only [List.getD_cons_zero, List.getD_cons_succ] at h0 h1
        cases h0; cases h1; rfl
  generalize hu : Act.eval ⟨tm, []⟩ m = u at hh
  cases hh with
  | @own _ gh hg =>
    obtain ⟨o, a1, ⟨es, clock, rfl, hM⟩, a3, a4, a5⟩ := hr.ho _ _ _ hg hs
    obtain ⟨es', clock', hrun, hM'⟩ := run_mapset (P := P) (T := T) w gh.b es clock L a1 hM i j c
    have hlt : gh.b < w.heap.size := (Array.getElem?_eq_some_iff.1 a1).1
    refine ⟨undef, setBlock w gh.b (.map es' clock'), gs, .inr ⟨?_, rfl⟩, hr.upd hg hs trivial _ trivial (fun b _ hb => setBlock_other _ _ _ _ (fun e => hb (by rw [a4, e]; simp))) (by simp [setBlock]) fun _ => ?_, .any _, setBlock_below (.inl rfl) a3⟩
    · have e5 : gh.v = .map (some gh.b) := a5
      simp only [execOp, hu, e5, ek, hr.evv hv, Sem.run_bind, hrun, Result.andThen_ok, Sem.run_pure]
    · exact ⟨_, setBlock_same _ _ _ hlt, ⟨es', clock', rfl, hM'⟩, a3, a4, a5⟩

theorem q_maplook {T kt e ve : TypeId} {bb : Nat} [TMap P T kt ve] [TPair P kt e] [TElem P ve (.int .i64 0) bb] {m k : Operand} {h : Nat} {L : List (Int × Int × Int)} {i j : Int} (hm : AV.ev env m = .own h) (hs : os[h]? = some (.ob (mapOb L))) (hk : AV.ev env k = .agg [.i i, .i j]) :
    QOp P false ⟨d, .lookup T m k false, ty, pos, af, g⟩ env os (.i (lookM L i j)) :=
  .of_runb fun base w gs tm hr => by
    have hh := hr.ev m
    rw [hm] at hh
    have hkk := hr.ev k
    rw [hk] at hkk
    have ek : Act.eval ⟨tm, []⟩ k = mkey i j := by
      generalize Act.eval ⟨tm, []⟩ k = u at hkk
      cases hkk with
      | @agg vs _ a1 _ a3 =>
        match vs, a1 with
        | [x, y], _ =>
          have h0 := a3 0
          have h1 := a3 1
          simp only [List.getD_cons_zero, List.getD_cons_succ] at h0 h1
          cases h0; cases h1; rfl
    generalize hu : Act.eval ⟨tm, []⟩ m = u at hh
    cases hh with
    | @own _ gh hg =>
      obtain ⟨o, a1, ⟨es, clock, rfl, hM⟩, a3, a4, a5⟩ := hr.ho _ _ _ hg hs
      refine ⟨_, .val _, fun w' hw' => ?_⟩
      have hblk := (hw'.block _ (Array.getElem?_eq_some_iff.1 a1).1).trans a1
      have e5 : gh.v = .map (some gh.b) := a5
      simp only [execOp, hu, e5, ek, Sem.run_bind, run_maplook (P := P) (T := T) w' gh.b es clock L hblk hM i j, Result.andThen_ok, Sem.run_pure]

theorem l_range {T kt ve : TypeId} [hT : TMap P T kt ve] {x : Operand} {b : Nat} {es : Array MapEntry} {clock : Nat} {L : List (Int × Int × Int)} (hM : MapIs es clock L) (hx : AV.ev env x = .ro (mapAt b es clock)) :
    LOp P ⟨d, .range T x, ty, pos, af, g⟩ env os (.own os.length) env (os ++ [.ob (itOb b es clock [])]) :=
  l_newob (ob := .mapIter (some b) clock #[] clock) ⟨clock, clock, #[], rfl, Nat.le_refl _, hM.2.1, by simp, .inl rfl, Nat.le_refl _⟩ fun base w gs tm hr => by
    obtain ⟨h1, _, h3⟩ := map_at hr hx
    simp only [execOp, h1, Instr.range, Sem.run_bind, run_underlying hT.und, Result.andThen_ok, MapKept.run_getObj_map h3, Sem.run_pure]
    simp

theorem born_inj {es : Array MapEntry} {clock : Nat} {L : List (Int × Int × Int)} (hM : MapIs es clock L) {i j : Nat} (hi : i < L.length) (hj : j < L.length) (h : bornAt es i = bornAt es j) : i = j := by
  obtain ⟨x, hx, _⟩ := keys_get hM.1 i hi
  obtain ⟨y, hy, _⟩ := keys_get hM.1 j hj
  simp only [bornAt, hx, hy, Option.map_some, Option.getD_some] at h
  have hn := hM.2.2
  have hs := size_of hM.1
  have gi : (es.toList.map (·.born))[i]? = some x.born := by simp [hx]
  have gj : (es.toList.map (·.born))[j]? = some y.born := by simp [hy]
  exact (List.getElem?_inj (by simp; omega) hn).1 (gi.trans (by rw [h]; exact gj.symm))

/-- One round of a loop over a map begins, or the loop ends. -/
theorem AOps.next {l rest : List Oper} {K : APost} {d : Tmp} {it : Operand} {h : Nat} {b : Nat} {es : Array MapEntry} {clock : Nat} {done : List Nat} {L : List (Int × Int × Int)} (m : Operand) (hM : MapIs es clock L) (hdone : ∀ i ∈ done, i < L.length)
    (hx : evo env it = some (.own h)) (hs : os[h]? = some (.ob (itOb b es clock done))) (hm : evo env m = some (.ro (mapAt b es clock)))
    (h0 : (∀ i, i < L.length → i ∈ done) → AOps P .seq l rest K (env.up d (.val (.tuple #[.bool false]))) os)
    (h1 : ∀ i, i < L.length → i ∉ done → AOps P .seq l rest K (env.up d (.val (.tuple #[.bool true, mkey (L.getD i (0, 0, 0)).1 (L.getD i (0, 0, 0)).2.1, .int .i64 (L.getD i (0, 0, 0)).2.2]))) (os.set h (.ob (itOb b es clock (done ++ [i]))))) :
    AOps P .seq l (⟨some d, .next it false, ty, pos, af, none⟩ :: rest) K env os := by
  intro base w0 w gs tm hr hb X Rt
  obtain ⟨_, hok, hmap⟩ := map_at hr (ev_of hm)
  have hh := hr.ev it
  rw [ev_of hx] at hh
  generalize hu : Act.eval ⟨tm, []⟩ it = u at hh
  cases hh with
  | @own _ gh hg =>
    obtain ⟨o, a1, ⟨since, c0, seen, rfl, q1, q2, q3, q4, q5⟩, a3, a4, a5⟩ := hr.ho _ _ _ hg hs
    have e5 : gh.v = .pointer (some ⟨gh.b, 0, none⟩) := a5
    have hlt : gh.b < w.heap.size := (Array.getElem?_eq_some_iff.1 a1).1
    have mem_seen : ∀ i, i < L.length → (bornAt es i ∈ seen.toList ↔ i ∈ done) := by
      intro i hi
      rw [q3, List.mem_map]
      constructor
      · rintro ⟨j, hj, e⟩
        have := born_inj hM (hdone j hj) hi e
        rwa [← this]
      · intro hi2; exact ⟨i, hi2, rfl⟩
    refine wpList_plain rfl fun K hK => ?_
    unfold Oper.wp
    rcases run_next_at (P := P) w ty gh.b b since c0 seen es clock a1 hmap q2 q1 with ⟨hz, hrun⟩ | ⟨e, he, w1, hw1, hrun⟩
    · have hrun' : (execOp (Act.eval ⟨tm, []⟩) ⟨some d, .next it false, ty, pos, af, none⟩).run P w = .ok (.value (.tuple #[.bool false])) w := by
        simp only [execOp, hu, e5, Sem.run_bind, hrun, Result.andThen_ok, Sem.run_pure]
      rw [hrun']
      refine hK _ _ (h0 (fun i hi => ?_) base w0 w gs _ (hr.put (.val _) d) hb X Rt)
      obtain ⟨x, hxe, _⟩ := keys_get hM.1 i hi
      have hnil : leftOf es seen = #[] := Array.eq_empty_of_size_eq_zero hz
      unfold leftOf at hnil
      rw [Array.filter_eq_empty_iff] at hnil
      have := hnil x (Array.mem_of_getElem? hxe)
      simp only [Bool.not_eq_true, Bool.not_eq_false', Array.contains_eq_mem, decide_eq_true_eq] at this
      refine (mem_seen i hi).1 ?_
      simpa [bornAt, hxe] using this
    · unfold leftOf at he
      simp only [Array.mem_toList_iff, Array.mem_filter, Bool.not_eq_true', Array.contains_eq_mem, decide_eq_false_iff_not] at he
      obtain ⟨hmem, hns⟩ := he
      obtain ⟨i, hi⟩ := Array.getElem?_of_mem hmem
      have hiL : i < L.length := by
        have := (Array.getElem?_eq_some_iff.1 hi).1
        have := size_of hM.1
        omega
      obtain ⟨x, hxe, k1, k2⟩ := keys_get hM.1 i hiL
      have ex : x = e := Option.some.inj (hxe.symm.trans hi)
      subst ex
      have hnd : i ∉ done := fun hc => hns (by have := (mem_seen i hiL).2 hc; simpa [bornAt, hxe] using this)
      have hrun' : (execOp (Act.eval ⟨tm, []⟩) ⟨some d, .next it false, ty, pos, af, none⟩).run P w = .ok (.value (.tuple #[.bool true, mkey (L.getD i (0, 0, 0)).1 (L.getD i (0, 0, 0)).2.1, .int .i64 (L.getD i (0, 0, 0)).2.2])) (setBlock w1 gh.b (.mapIter (some b) since (seen.push x.born) clock)) := by
        simp only [execOp, hu, e5, Sem.run_bind, hrun, Result.andThen_ok, Sem.run_pure, k1, k2]
      rw [hrun']
      have hw1h : w1.heap = w.heap := by rcases hw1 with rfl | rfl <;> rfl
      refine hK _ _ (h1 i hiL hnd base w0 _ gs _ ((hr.upd hg hs trivial (.ob (itOb b es clock (done ++ [i]))) trivial (fun c _ hc => ?_) ?_ fun _ => ?_).put (.val _) d) (hb.trans (setBlock_below hw1 a3)) X Rt)
      · rw [setBlock_other _ _ _ _ (fun e => hc (by rw [a4, e]; simp)), hw1h]
      · simp [setBlock, hw1h]
      · exact ⟨_, setBlock_same _ _ _ (by rw [hw1h]; exact hlt), ⟨since, clock, seen.push x.born, rfl, q5, q2, by simp [q3, bornAt, hxe], .inr rfl, q5⟩, a3, a4, a5⟩

/-- The key and the number of the entry that was handed out last. -/
theorem q_entry {it : Operand} {h : Nat} {b : Nat} {es : Array MapEntry} {clock : Nat} {done : List Nat} {i : Nat} {L : List (Int × Int × Int)} (m : Operand) (hM : MapIs es clock L) (hi : i < L.length)
    (hx : AV.ev env it = .own h) (hs : os[h]? = some (.ob (itOb b es clock (done ++ [i])))) (hm : AV.ev env m = .ro (mapAt b es clock)) :
    QOp P false ⟨d, .entry it, ty, pos, af, g⟩ env os (.tup [.agg [.i (L.getD i (0, 0, 0)).1, .i (L.getD i (0, 0, 0)).2.1], .i (L.getD i (0, 0, 0)).2.2]) :=
  .of_runb fun base w gs tm hr => by
    obtain ⟨_, hok, hmap⟩ := map_at hr hm
    have hh := hr.ev it
    rw [hx] at hh
    generalize hu : Act.eval ⟨tm, []⟩ it = u at hh
    cases hh with
    | @own _ gh hg =>
      obtain ⟨o, a1, ⟨since, c0, seen, rfl, q1, q2, q3, q4, q5⟩, a3, a4, a5⟩ := hr.ho _ _ _ hg hs
      have e5 : gh.v = .pointer (some ⟨gh.b, 0, none⟩) := a5
      obtain ⟨x, hxe, k1, k2⟩ := keys_get hM.1 i hi
      have hc : c0 = clock := by
        rcases q4 with h | h
        · simp at h
        · exact h
      subst hc
      have hseen : seen = (done.map (bornAt es)).toArray.push x.born := by
        apply Array.ext'
        rw [q3]
        simp [bornAt, hxe]
      refine ⟨.tuple [mkey (L.getD i (0, 0, 0)).1 (L.getD i (0, 0, 0)).2.1, .int .i64 (L.getD i (0, 0, 0)).2.2].toArray, .tup rfl (rv_list rfl fun j hj => ?_), fun w' hw' => ?_⟩
      · match j, hj with
        | 0, _ =>
          refine RV.agg (vs := [.int .i64 (L.getD i (0, 0, 0)).1, .int .i64 (L.getD i (0, 0, 0)).2.1]) rfl (by simp; exact ⟨rfl, rfl⟩) (rv_list rfl fun j hj => ?_)
          match j, hj with
          | 0, _ => exact .val _
          | 1, _ => exact .val _
        | 1, _ => exact .val _
      · have hb1 := (hw'.block _ (Array.getElem?_eq_some_iff.1 a1).1).trans a1
        have hb2 := (hw'.block _ (Array.getElem?_eq_some_iff.1 hmap).1).trans hmap
        rw [hseen] at hb1
        have hrun := run_entry_at (P := P) w' gh.b b since (done.map (bornAt es)).toArray es c0 x hb1 hb2 (by simpa using Array.mem_of_getElem? hxe) hM.2.2
        simp only [execOp, hu, e5, Sem.run_bind, hrun, Result.andThen_ok, Sem.run_pure, k1, k2]

theorem q_idxarr {t e : TypeId} {n : Nat} [ht : TArr P t e n] {x y : Operand} {h i : Nat} {k : Int} (hx : AV.ev env x = .optr h i) (hy : AV.ev env y = .i k) (h0 : 0 ≤ k) (h1 : k < n) :
    QOp P wl ⟨d, .indexAddr t x y, ty, pos, af, g⟩ env os (.optr h (i + k.toNat)) :=
  .of_run fun _ w gs tm hr => by
    have hh := hr.ev x
    rw [hx] at hh
    generalize hv : Act.eval ⟨tm, []⟩ x = v at hh
    cases hh with
    | optr hg =>
      refine ⟨_, .optr hg, fun w' hw' => ?_⟩
      obtain ⟨ii, hi, hsz⟩ := ht.elm
      simp [execOp, hv, hr.evv hy, Instr.indexAt, run_underlying ht.und, asIntOf, Instr.sureAddr, sizeOf, typeInfo, hi, hsz, h0, h1, add_none]

variable {l rest : List Oper} {K : APost} {q : Md}
theorem w_entry {d : Tmp} {it : Operand} {h : Nat} {b : Nat} {es : Array MapEntry} {clock : Nat} {done : List Nat} {i : Nat} {L : List (Int × Int × Int)} (m : Operand) (hM : MapIs es clock L) (hi : i < L.length)
    (hw : wantedA l env ⟨some d, .entry it, ty, pos, af, g⟩ = some true) (hq : q.wl = false) (hx : evo env it = some (.own h)) (hs : os[h]? = some (.ob (itOb b es clock (done ++ [i])))) (hm : evo env m = some (.ro (mapAt b es clock)))
    (h' : AOps P q l rest K (env.up d (.tup [.agg [.i (L.getD i (0, 0, 0)).1, .i (L.getD i (0, 0, 0)).2.1], .i (L.getD i (0, 0, 0)).2.2])) os) : AOps P q l (⟨some d, .entry it, ty, pos, af, g⟩ :: rest) K env os :=
  AOps.qo hw (by rw [hq]; exact q_entry m hM hi (ev_of hx) hs (ev_of hm)) h'
theorem w_idxarr {d : Tmp} {t e : TypeId} {n : Nat} [TArr P t e n] {x y : Operand} {h i j : Nat} {k : Int} (hw : wantedA l env ⟨some d, .indexAddr t x y, ty, pos, af, g⟩ = some true) (hx : evo env x = some (.optr h i)) (hy : evo env y = some (.i k)) (h0 : 0 ≤ k) (h1 : k < n) (hj : i + k.toNat = j)
    (h' : AOps P q l rest K (env.up d (.optr h j)) os) : AOps P q l (⟨some d, .indexAddr t x y, ty, pos, af, g⟩ :: rest) K env os :=
  AOps.qo hw (QOp.cast (by rw [hj]) (q_idxarr (ev_of hx) (ev_of hy) h0 h1)) h'
theorem w_maplook {d : Tmp} {T kt e ve : TypeId} {bb : Nat} [TMap P T kt ve] [TPair P kt e] [TElem P ve (.int .i64 0) bb] {m k : Operand} {h : Nat} {L : List (Int × Int × Int)} {i j : Int} (hw : wantedA l env ⟨some d, .lookup T m k false, ty, pos, af, g⟩ = some true) (hq : q.wl = false)
    (hm : evo env m = some (.own h)) (hs : os[h]? = some (.ob (mapOb L))) (hk : evo env k = some (.agg [.i i, .i j])) (h' : AOps P q l rest K (env.up d (.i (lookM L i j))) os) : AOps P q l (⟨some d, .lookup T m k false, ty, pos, af, g⟩ :: rest) K env os :=
  AOps.qo hw (by rw [hq]; exact q_maplook (ev_of hm) hs (ev_of hk)) h'
theorem w_makemap {d : Tmp} {T : TypeId} {m : Nat} (hm : os.length = m) (h' : AOps P .seq l rest K (env.up d (.own m)) (os ++ [.ob (mapOb [])])) : AOps P .seq l (⟨some d, .makeMap T none, ty, pos, af, none⟩ :: rest) K env os := by
  subst hm; exact AOps.lo l_makemap h'
theorem w_mapset {T kt e ve : TypeId} [TMap P T kt ve] [TPair P kt e] {m k v : Operand} {h : Nat} {L : List (Int × Int × Int)} {i j c : Int} (hm : evo env m = some (.own h)) (hs : os[h]? = some (.ob (mapOb L))) (hk : evo env k = some (.agg [.i i, .i j])) (hv : evo env v = some (.i c))
    (h' : AOps P .seq l rest K env (os.set h (.ob (mapOb (putM L i j c))))) : AOps P .seq l (⟨none, .mapUpdate T m k v, ty, pos, af, none⟩ :: rest) K env os :=
  AOps.so (l_mapset (ev_of hm) hs (ev_of hk) (ev_of hv)) h'
theorem w_range {d : Tmp} {T kt ve : TypeId} [TMap P T kt ve] {x : Operand} {b : Nat} {es : Array MapEntry} {clock : Nat} {L : List (Int × Int × Int)} {m : Nat} (hM : MapIs es clock L) (hx : evo env x = some (.ro (mapAt b es clock))) (hm : os.length = m)
    (h' : AOps P .seq l rest K (env.up d (.own m)) (os ++ [.ob (itOb b es clock [])])) : AOps P .seq l (⟨some d, .range T x, ty, pos, af, none⟩ :: rest) K env os := by
  subst hm; exact AOps.lo (l_range hM (ev_of hx)) h'
end
end Go.Proofs.Ytpllbdjobmgikaa
