/-
  From a row's readings of the arguments to abstract arguments. No condition.
-/
import Derived.Test.YtfgnccoaebkckaaDoorAmCall
import Derived.ProofKit
import Derived.OpenShut
import Derived.ShutString
import Derived.ChangeOld
import Derived.Below
import Derived.Carry
import Derived.Deep.Matrix
import Derived.Lib.SmallJoins
import Derived.Lib.LaidU8
namespace Go.Proofs.YtfgnccoaebkckaaDoor
open Go Go.RowKit Go.ChangeShapes Go.WideShapes Go.Deep

theorem wf_inI {n : Int} (h : (Lit.int .i64 n).wf = true) : inI n := by
  simp only [Lit.wf, Bool.and_eq_true, decide_eq_true_eq] at h
  exact ⟨by have := h.1; simpa [IntKind.min, IntKind.signed, IntKind.bits] using this, by have := h.2; simpa [IntKind.max, IntKind.signed, IntKind.bits] using this⟩

theorem intsAt_of {w : World} {A : Option Addr} {L C : Nat} {zs : List Int} (h1 : L ≤ C) (h2 : C ≤ maxLen) (hl : L ≤ zs.length)
    (hA : A = none → L = 0) (hc : ∀ a, A = some a → ∀ i, i < L → w.cell? (a.add i) = some (.int .i64 (zs.getD i 0))) (hw : ∀ n ∈ zs, (Lit.int .i64 n).wf = true) :
    IntsAt w (fun _ => True) (.slice A L C) (zs.take L) := by
  have e : ((zs.take L).map (Value.int .i64)).length = L := by simp; omega
  refine ⟨⟨A, C, by rw [e], by omega, h2, fun hp => ?_⟩, fun x hx => wf_inI (hw x (List.mem_of_mem_take hx))⟩
  rw [e] at hp
  cases A with
  | none => have := hA rfl; omega
  | some a =>
    obtain ⟨b, o, sp⟩ := a
    have h0 := hc _ rfl 0 hp
    have hs : sp = none := Go.Proofs.cell_spot h0
    subst hs
    refine ⟨b, o, rfl, trivial, fun i u hu => ?_⟩
    have hi := (List.getElem?_eq_some_iff.1 hu).1
    rw [e] at hi
    have hci := hc _ rfl i hi
    rw [← Addr.add_lit, hci]
    rw [List.getElem?_map, List.getElem?_take_of_lt hi] at hu
    rw [List.getD_eq_getElem?_getD]
    cases hz : zs[i]? with
    | none => rw [hz] at hu; cases hu
    | some z => rw [hz] at hu; simpa using hu

section
variable {H : Type} {enc : TypeId × Value → H} {P : Program} {w : World} {base : Nat} {held : Bool}

theorem trod_ints {t e : TypeId} {fuel : Nat} {v : Value} {x : DataW H × List MemPlace} (ht : P.underlying t = some (.slice e)) (he : P.underlying e = some (.int .i64)) (hc : P.cellsOf e = 1)
    (h : DataW.trod enc P w base (fun _ => true) held fuel t [v] = some x) : ∃ xs, IntsAt w (fun _ => True) v xs := by
  rcases open_ints ht he hc h with ⟨hv, _⟩ | ⟨a, len, cap, zs, hv, _, hl, hm, hz, _, hcell, hw⟩
  · obtain rfl : v = _ := (List.cons.inj hv).1
    exact ⟨_, intsAt_of (zs := []) (Nat.le_refl _) (by simp [maxLen]) (Nat.le_refl _) (fun _ => rfl) (fun a ha => by cases ha) (fun n hn => by cases hn)⟩
  · obtain rfl : v = _ := (List.cons.inj hv).1
    simp only [if_true] at hz
    refine ⟨_, intsAt_of (zs := zs) hl hm (by omega) (fun ha => by cases ha) (fun a' ha i hi => ?_) hw⟩
    cases ha
    exact hcell i (by omega)

theorem trod_intss {t e q : TypeId} {fuel : Nat} {v : Value} {x : DataW H × List MemPlace} (ht : P.underlying t = some (.slice e)) (he : P.underlying e = some (.slice q)) (hq : P.underlying q = some (.int .i64))
    (ce : P.cellsOf e = 1) (cq : P.cellsOf q = 1) (h : DataW.trod enc P w base (fun _ => true) held fuel t [v] = some x) : ∃ xss, IntssAt w (fun _ => True) v xss := by
  rcases open_int_rows ht he hq ce cq h with ⟨hv, _⟩ | ⟨a, len, cap, A, L, C, Z, hv, _, hl, hm, _, hr⟩
  · obtain rfl : v = _ := (List.cons.inj hv).1
    exact ⟨[], [], ⟨none, 0, rfl, Nat.le_refl _, by simp [maxLen], fun hp => by cases hp⟩, rfl, fun i u hu => by cases hu⟩
  · obtain rfl : v = _ := (List.cons.inj hv).1
    refine ⟨(List.range len).map fun r => (Z r).take (L r), (List.range len).map fun r => Value.slice (A r) (L r) (C r), ?_, by simp, ?_⟩
    · have e : ((List.range len).map fun r => Value.slice (A r) (L r) (C r)).length = len := by simp
      refine ⟨some a, cap, by rw [e], by omega, hm, fun hp => ?_⟩
      rw [e] at hp
      obtain ⟨b, o, sp⟩ := a
      have hs : sp = none := Go.Proofs.cell_spot (hr 0 (by omega)).1
      subst hs
      refine ⟨b, o, rfl, trivial, fun i u hu => ?_⟩
      have hi := (List.getElem?_eq_some_iff.1 hu).1
      rw [e] at hi
      have hci := (hr i (by omega)).1
      rw [← Addr.add_lit, hci]
      simp [hi] at hu
      rw [hu]
    · intro i u hu
      have hi := (List.getElem?_eq_some_iff.1 hu).1
      simp at hi
      simp [hi] at hu
      subst hu
      obtain ⟨_, h1, h2, h3, h4, h5, h6⟩ := hr i (by omega)
      have := intsAt_of (w := w) (A := A i) (L := L i) (C := C i) (zs := Z i) h1 h2 (by omega) (fun ha => by have := h5 ha; omega) (fun a' ha j hj => (h6 a' ha).2 j (by omega)) h4
      simpa [hi] using this

/-! ### Whole arguments -/

theorem arg_int {t : TypeId} {v : Value} {d : DataW H} {ps : List MemPlace} (ht : P.underlying t = some (.int .i64)) (hval : Value.okWide P w .any 0 t v) (hd : DataW.Trod enc P w base (fun _ => true) held t v d ps) :
    ∃ n, inI n ∧ RV w (fun _ => True) [] v (.i n) := by
  obtain ⟨n, rfl, _, _, hw⟩ := open_int ht hval hd
  exact ⟨n, wf_inI hw, .val _⟩

theorem arg_ints {t e : TypeId} {v : Value} {d : DataW H} {ps : List MemPlace} (ht : P.underlying t = some (.slice e)) (he : P.underlying e = some (.int .i64)) (hc : P.cellsOf e = 1)
    (hval : Value.okWide P w .any 0 t v) (hd : DataW.Trod enc P w base (fun _ => true) held t v d ps) : ∃ xs, RV w (fun _ => True) [] v (.ints xs) := by
  obtain ⟨a, l, c, rfl⟩ := okWide_slice ht hval
  obtain ⟨fuel, hf⟩ := hd
  obtain ⟨xs, h⟩ := trod_ints ht he hc (by simpa [Value.cells] using hf)
  exact ⟨xs, .ints h⟩

theorem arg_intss {t e q : TypeId} {v : Value} {d : DataW H} {ps : List MemPlace} (ht : P.underlying t = some (.slice e)) (he : P.underlying e = some (.slice q)) (hq : P.underlying q = some (.int .i64))
    (ce : P.cellsOf e = 1) (cq : P.cellsOf q = 1) (hval : Value.okWide P w .any 0 t v) (hd : DataW.Trod enc P w base (fun _ => true) held t v d ps) : ∃ xss, RV w (fun _ => True) [] v (.intss xss) := by
  obtain ⟨a, l, c, rfl⟩ := okWide_slice ht hval
  obtain ⟨fuel, hf⟩ := hd
  obtain ⟨xs, h⟩ := trod_intss ht he hq ce cq (by simpa [Value.cells] using hf)
  exact ⟨xs, .intss h⟩

theorem rv_agg2 {v0 v1 : Value} {a0 a1 : AV} (o0 : v0.oneCell' = true) (o1 : v1.oneCell' = true) (h0 : RV w (fun _ => True) [] v0 a0) (h1 : RV w (fun _ => True) [] v1 a1) : RV w (fun _ => True) [] (.agg #[v0, v1]) (.agg [a0, a1]) := by
  refine RV.agg (vs := [v0, v1]) rfl ?_ ?_
  · intro v hv
    simp at hv
    rcases hv with rfl | rfl <;> assumption
  · intro i
    match i with
    | 0 => exact h0
    | 1 => exact h1
    | n + 2 => exact .any _

theorem rv_agg1 {v0 : Value} {a0 : AV} (o0 : v0.oneCell' = true) (h0 : RV w (fun _ => True) [] v0 a0) : RV w (fun _ => True) [] (.agg #[v0]) (.agg [a0]) := by
  refine RV.agg (vs := [v0]) rfl ?_ ?_
  · intro v hv
    simp at hv
    subst hv; assumption
  · intro i
    match i with
    | 0 => exact h0
    | n + 1 => exact .any _

theorem IntsAt.oneCell {w : World} {ok : Nat → Prop} {v : Value} {xs : List Int} (h : IntsAt w ok v xs) : v.oneCell' = true := by
  obtain ⟨⟨a, c, rfl, _⟩, _⟩ := h; rfl
theorem IntssAt.oneCell {w : World} {ok : Nat → Prop} {v : Value} {xs : List (List Int)} (h : IntssAt w ok v xs) : v.oneCell' = true := by
  obtain ⟨vs, ⟨a, c, rfl, _⟩, _⟩ := h; rfl

/-- A struct of an int64 and a []int64. -/
theorem arg_series {t : TypeId} {f0 f1 : Field} {e : TypeId} {v : Value} {d : DataW H} {ps : List MemPlace} (hs : P.underlying t = some (.struct #[f0, f1])) (hone : oneCellFields P #[f0, f1] = true) (hC : P.cellsOf t = 2)
    (h0 : P.underlying f0.type = some (.int .i64)) (h1 : P.underlying f1.type = some (.slice e)) (he : P.underlying e = some (.int .i64)) (ce : P.cellsOf e = 1)
    (hval : Value.okWide P w .any 0 t v) (hd : DataW.Trod enc P w base (fun _ => true) held t v d ps) : ∃ n xs, inI n ∧ RV w (fun _ => True) [] v (.agg [.i n, .ints xs]) := by
  obtain ⟨v0, v1, y0, y1, k, rfl, _, _, t0, t1⟩ := Go.Joins.open_agg2 hs hone hC hval hd
  obtain ⟨n, hv0, _, hw⟩ := DataW.trod_int h0 t0
  obtain rfl : v0 = _ := (List.cons.inj hv0).1
  obtain ⟨xs, hx⟩ := trod_ints h1 he ce t1
  exact ⟨n, xs, wf_inI hw, rv_agg2 rfl hx.oneCell (.val _) (.ints hx)⟩

/-- A struct of a []int64 and a [][]int64. -/
theorem arg_ints_intss {t : TypeId} {f0 f1 : Field} {e e1 q : TypeId} {v : Value} {d : DataW H} {ps : List MemPlace} (hs : P.underlying t = some (.struct #[f0, f1])) (hone : oneCellFields P #[f0, f1] = true) (hC : P.cellsOf t = 2)
    (h0 : P.underlying f0.type = some (.slice e)) (he : P.underlying e = some (.int .i64)) (ce : P.cellsOf e = 1) (h1 : P.underlying f1.type = some (.slice e1)) (he1 : P.underlying e1 = some (.slice q)) (hq : P.underlying q = some (.int .i64)) (ce1 : P.cellsOf e1 = 1) (cq : P.cellsOf q = 1)
    (hval : Value.okWide P w .any 0 t v) (hd : DataW.Trod enc P w base (fun _ => true) held t v d ps) : ∃ xs xss, RV w (fun _ => True) [] v (.agg [.ints xs, .intss xss]) := by
  obtain ⟨v0, v1, y0, y1, k, rfl, _, _, t0, t1⟩ := Go.Joins.open_agg2 hs hone hC hval hd
  obtain ⟨xs, hx⟩ := trod_ints h0 he ce t0
  obtain ⟨xss, hxs⟩ := trod_intss h1 he1 hq ce1 cq t1
  exact ⟨xs, xss, rv_agg2 hx.oneCell hxs.oneCell (.ints hx) (.intss hxs)⟩

/-- A struct of one field of one cell. -/
theorem open_agg1 {t : TypeId} {f0 : Field} {v : Value} {d : DataW H} {ps : List MemPlace} (hs : P.underlying t = some (.struct #[f0])) (hone : oneCellFields P #[f0] = true) (hC : P.cellsOf t = 1)
    (hval : Value.okWide P w .any 0 t v) (hd : DataW.Trod enc P w base (fun _ => true) held t v d ps) : ∃ (v0 : Value) (y0 : DataW H × List MemPlace) (n : Nat), v = .agg #[v0] ∧ DataW.trod enc P w base (fun _ => true) held n f0.type [v0] = some y0 := by
  obtain ⟨cs, rfl, hsz⟩ := okWide_struct hs hval
  obtain ⟨c0, rfl⟩ : ∃ c0, cs = #[c0] := by
    obtain ⟨l⟩ := cs
    match l, hsz.trans hC with
    | [c0], _ => exact ⟨c0, rfl⟩
  obtain ⟨fuel, hf⟩ := hd
  obtain ⟨xs, n, _, _, _, hlen, hf⟩ := DataW.trod_struct hs hf
  match xs, hlen with
  | [y0], _ =>
    obtain ⟨o0, k0⟩ := hone_of hone 0 f0 rfl
    have h0 := hf 0 f0 rfl
    exact ⟨c0, y0, n, rfl, by simpa [Value.cells, o0, k0] using h0⟩

/-- A struct of a []int64. -/
theorem arg_branch {t : TypeId} {f0 : Field} {e : TypeId} {v : Value} {d : DataW H} {ps : List MemPlace} (hs : P.underlying t = some (.struct #[f0])) (hone : oneCellFields P #[f0] = true) (hC : P.cellsOf t = 1)
    (h0 : P.underlying f0.type = some (.slice e)) (he : P.underlying e = some (.int .i64)) (ce : P.cellsOf e = 1)
    (hval : Value.okWide P w .any 0 t v) (hd : DataW.Trod enc P w base (fun _ => true) held t v d ps) : ∃ xs, RV w (fun _ => True) [] v (.agg [.ints xs]) := by
  obtain ⟨v0, y0, k, rfl, t0⟩ := open_agg1 hs hone hC hval hd
  obtain ⟨xs, hx⟩ := trod_ints h0 he ce t0
  exact ⟨xs, rv_agg1 hx.oneCell (.ints hx)⟩

/-- A struct of a [][]int64. -/
theorem arg_poly {t : TypeId} {f0 : Field} {e q : TypeId} {v : Value} {d : DataW H} {ps : List MemPlace} (hs : P.underlying t = some (.struct #[f0])) (hone : oneCellFields P #[f0] = true) (hC : P.cellsOf t = 1)
    (h0 : P.underlying f0.type = some (.slice e)) (he : P.underlying e = some (.slice q)) (hq : P.underlying q = some (.int .i64)) (ce : P.cellsOf e = 1) (cq : P.cellsOf q = 1)
    (hval : Value.okWide P w .any 0 t v) (hd : DataW.Trod enc P w base (fun _ => true) held t v d ps) : ∃ xss, RV w (fun _ => True) [] v (.agg [.intss xss]) := by
  obtain ⟨v0, y0, k, rfl, t0⟩ := open_agg1 hs hone hC hval hd
  obtain ⟨xs, hx⟩ := trod_intss h0 he hq ce cq t0
  exact ⟨xs, rv_agg1 hx.oneCell (.intss hx)⟩

theorem rvs1 {v0 : Value} {a0 : AV} (h0 : RV w (fun _ => True) [] v0 a0) : RVs w [a0] #[v0] := by
  refine ⟨rfl, fun i => ?_⟩
  match i with
  | 0 => exact h0
  | n + 1 => exact .any _
theorem rvs2 {v0 v1 : Value} {a0 a1 : AV} (h0 : RV w (fun _ => True) [] v0 a0) (h1 : RV w (fun _ => True) [] v1 a1) : RVs w [a0, a1] #[v0, v1] := by
  refine ⟨rfl, fun i => ?_⟩
  match i with
  | 0 => exact h0
  | 1 => exact h1
  | n + 2 => exact .any _
theorem rvs3 {v0 v1 v2 : Value} {a0 a1 a2 : AV} (h0 : RV w (fun _ => True) [] v0 a0) (h1 : RV w (fun _ => True) [] v1 a1) (h2 : RV w (fun _ => True) [] v2 a2) : RVs w [a0, a1, a2] #[v0, v1, v2] := by
  refine ⟨rfl, fun i => ?_⟩
  match i with
  | 0 => exact h0
  | 1 => exact h1
  | 2 => exact h2
  | n + 3 => exact .any _
theorem rvs4 {v0 v1 v2 v3 : Value} {a0 a1 a2 a3 : AV} (h0 : RV w (fun _ => True) [] v0 a0) (h1 : RV w (fun _ => True) [] v1 a1) (h2 : RV w (fun _ => True) [] v2 a2) (h3 : RV w (fun _ => True) [] v3 a3) : RVs w [a0, a1, a2, a3] #[v0, v1, v2, v3] := by
  refine ⟨rfl, fun i => ?_⟩
  match i with
  | 0 => exact h0
  | 1 => exact h1
  | 2 => exact h2
  | 3 => exact h3
  | n + 4 => exact .any _
theorem rvs5 {v0 v1 v2 v3 v4 : Value} {a0 a1 a2 a3 a4 : AV} (h0 : RV w (fun _ => True) [] v0 a0) (h1 : RV w (fun _ => True) [] v1 a1) (h2 : RV w (fun _ => True) [] v2 a2) (h3 : RV w (fun _ => True) [] v3 a3) (h4 : RV w (fun _ => True) [] v4 a4) : RVs w [a0, a1, a2, a3, a4] #[v0, v1, v2, v3, v4] := by
  refine ⟨rfl, fun i => ?_⟩
  match i with
  | 0 => exact h0
  | 1 => exact h1
  | 2 => exact h2
  | 3 => exact h3
  | 4 => exact h4
  | n + 5 => exact .any _

theorem trod_places {t : TypeId} {v : Value} {d : DataW H} {ps : List MemPlace} {spare : Nat → Bool} (h : DataW.Trod enc P w base spare held t v d ps) : ∀ x ∈ ps, x.block < w.heap.size := by
  obtain ⟨fuel, hf⟩ := h
  exact DataW.trod_lt _ _ _ _ hf
end
end Go.Proofs.YtfgnccoaebkckaaDoor
