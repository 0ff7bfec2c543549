/-
  Contracts of the library's Join and FormatInt over abstract values. Conditions: bounds on sizes; the table's cells.
-/
import Derived.Test.YtfgnccoaebkckaaDoorShT
import Derived.Test.YtfgnccoaebkckaaDoorAmMore56
namespace Go.Proofs.YtfgnccoaebkckaaDoor
open Go Go.RowKit
attribute [local irreducible] AWp AOps ResIs Ret1 QOp LOp COp AFnV AFn Imms LeE LeO
set_option maxHeartbeats 1000000
set_option linter.unusedSimpArgs false
set_option linter.unusedVariables false

theorem rvs2_inv {w : World} {a b : AV} {vs : Array Value} (h : RVs w [a, b] vs) : ∃ x y, vs = #[x, y] ∧ RV w (fun _ => True) [] x a ∧ RV w (fun _ => True) [] y b := by
  obtain ⟨h1, h2⟩ := h
  have h0 := h2 0
  have h3 := h2 1
  rcases vs with ⟨l⟩
  match l, h1 with
  | [x, y], _ => exact ⟨x, y, rfl, h0, h3⟩
theorem join_c (ss : List (List UInt8)) (sep : List UInt8) (h1 : ss.length ≤ 140737488355328) (h2 : (Lib.join ss sep).length ≤ 140737488355328) : AFnV Tryd.prog 40 [.ro (strsR ss), .s sep] (sV (Lib.join ss sep)) := by
  unfold AFnV
  refine ⟨⟨_, _, Tryd.func40, by kernel_rfl, rfl⟩, fun w vs hvs => ?_⟩
  obtain ⟨x, y, rfl, hx, hy⟩ := rvs2_inv hvs
  cases hy
  cases hx with
  | ro hx =>
    obtain ⟨a, cap, rfl, hc, hm, hcells⟩ := hx
    rw [List.length_map] at hc hcells ⊢
    by_cases h0 : ss.length = 0
    · have e0 : ss = [] := List.length_eq_zero_iff.1 h0
      subst e0
      exact (strings_Join_none a cap ⟨sep.toArray⟩ w).mono fun e w' ⟨he, hw⟩ => ⟨he, hw ▸ Below.refl _ _⟩
    · obtain ⟨b, off, rfl, _, hcs⟩ := hcells (by omega)
      have hmp : (ss.map fun l => (⟨l.toArray⟩ : ByteArray)).map (·.data.toList) = ss := by rw [List.map_map]; simp [Function.comp_def]
      have hlen : (ss.map fun l => (⟨l.toArray⟩ : ByteArray)).length = ss.length := List.length_map _
      have hcs' : ∀ (j : Nat) x, (ss.map fun l => (⟨l.toArray⟩ : ByteArray))[j]? = some x → w.cell? ⟨b, off + j, none⟩ = some (.string x) := fun j x hj => by
        refine hcs j (.string x) ?_
        rw [List.getElem?_map] at hj ⊢
        cases hs : ss[j]? with
        | none => rw [hs] at hj; cases hj
        | some s => rw [hs] at hj; cases hj; rfl
      have hbk : b < w.heap.size := by
        have := hcs 0 (sV (ss[0]'(by omega))) (by rw [List.getElem?_map, List.getElem?_eq_getElem (by omega)]; rfl)
        exact World.block_lt_of_cell? w _ this
      have hj := strings_Join b off cap _ ⟨sep.toArray⟩ w hcs' hbk (by rw [hlen]; exact h1) (by rw [hlen]; exact hc) (by rw [hmp]; exact h2)
      rw [hmp, hlen] at hj
      exact hj
theorem formatInt_c (n : Int) (hn : inI n) : AFnVt Tryd.prog 48 [.i n, .i 10] (sV (Lib.itoa n)) := by
  refine ⟨⟨_, _, Tryd.func48, by kernel_rfl, rfl⟩, fun w vs hvs ht => ?_⟩
  obtain ⟨x, y, rfl, hx, hy⟩ := rvs2_inv hvs
  cases hy
  cases hx
  refine (Go.Proofs.Any.strconv_FormatInt_10 laysM173 n hn.1 hn.2 w ht).mono ?_
  rintro e w' ⟨rfl, k, os, rfl⟩
  exact ⟨rfl, rfl, rfl, rfl, by show w.heap.size ≤ (w.heap ++ os).size; rw [Array.size_append]; omega, fun j hj => by show (w.heap ++ os)[j]? = w.heap[j]?; rw [Array.getElem?_append_left hj]⟩
end Go.Proofs.YtfgnccoaebkckaaDoor
