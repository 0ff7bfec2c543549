/-
  The comparison of terms that the sort is handed, walked by the kit's own steps. No condition but a bound on the exponents.
-/
import Derived.WalkKit
import Derived.Deep.LoopGhost
import Derived.Deep.Draws
import Derived.Lib.Walk
import Derived.Lib.Small
import Derived.Lib.Slices
import Derived.Shelf.RegionOpenPlain
import Derived.Deep.QuietTactic
import Derived.Test.YtkickbnahajpoaaSortG
namespace Go.Proofs.Ytkickbnahajpoaa
open Go Go.RowKit

/-- Terms by their degrees, and then by their first exponents. -/
def cmpW (x y : List Int) : Int := if Lib.compareInt (geti x 0 + geti x 1) (geti y 0 + geti y 1) = 0 then Lib.compareInt (geti x 0) (geti y 0) else Lib.compareInt (geti x 0 + geti x 1) (geti y 0 + geti y 1)

set_option maxHeartbeats 1000000 in
theorem compared_k (x y : Int) (w : World) : Calls Try.prog 53 #[.int .i64 x, .int .i64 y] w fun e w' => e = .returned (.int .i64 (Lib.compareInt x y)) ∧ w' = w := by
  go_enter Try.func53, Try.ntmps53
  go_wp2
  all_goals (go_ret; refine ⟨?_, rfl⟩; unfold Lib.compareInt; (repeat' split) <;> first | rfl | (exfalso; omega))

set_option maxHeartbeats 4000000 in
theorem compareTerms_k (b1 o1 c1 b2 o2 c2 : Nat) (x0 x1 y0 y1 : Int) (w : World) (h0 : w.cell? ⟨b1, o1, none⟩ = some (.int .i64 x0)) (h1 : w.cell? ⟨b1, o1 + 1, none⟩ = some (.int .i64 x1)) (g0 : w.cell? ⟨b2, o2, none⟩ = some (.int .i64 y0)) (g1 : w.cell? ⟨b2, o2 + 1, none⟩ = some (.int .i64 y1))
    (hx0 : 0 ≤ x0 ∧ x0 ≤ 100000) (hx1 : 0 ≤ x1 ∧ x1 ≤ 100000) (hy0 : 0 ≤ y0 ∧ y0 ≤ 100000) (hy1 : 0 ≤ y1 ∧ y1 ≤ 100000) :
    Calls Try.prog 47 #[.slice (some ⟨b1, o1, none⟩) 3 c1, .slice (some ⟨b2, o2, none⟩) 3 c2] w fun e w' =>
      e = .returned (.int .i64 (if Lib.compareInt (x0 + x1) (y0 + y1) = 0 then Lib.compareInt x0 y0 else Lib.compareInt (x0 + x1) (y0 + y1))) ∧ ∃ n, w' = w.drewN n := by
  have w1 : IntKind.i64.wrap (x0 + x1) = x0 + x1 := by rw [IntKind.wrap_i64]; omega
  have w2 : IntKind.i64.wrap (y0 + y1) = y0 + y1 := by rw [IntKind.wrap_i64]; omega
  have cc := fun w => compared_k (x0 + x1) (y0 + y1) w
  have cd := fun w => compared_k x0 y0 w
  clear hx0 hx1 hy0 hy1
  generalize Lib.compareInt (x0 + x1) (y0 + y1) = r at cc ⊢
  generalize Lib.compareInt x0 y0 = s at cd ⊢
  by_cases hr : r = 0
  · subst hr
    go_enter Try.func47, Try.ntmps47
    go_wp2_with fail
    go_quiet (first | (go_at_call 53; refine Calls.quiet_of_same (cc _)))
    go_wp2_with fail
    have k0 : (w.drewN nq).cell? ⟨b1, o1, none⟩ = some (.int .i64 x0) := h0
    have k1 : (w.drewN nq).cell? ⟨b2, o2, none⟩ = some (.int .i64 y0) := g0
    have A : Aside (∃ m, w.drewN nq = w.drewN m) := ⟨nq, rfl⟩
    generalize w.drewN nq = wq at k0 k1 A ⊢
    clear h0 h1 g0 g1
    go_quiet (first | (go_at_call 53; refine Calls.quiet_of_same (cd _)))
    go_wp2
    go_ret
    obtain ⟨m, rfl⟩ := A.out
    exact ⟨rfl, m + nq, by rw [World.drewN_drewN]⟩
  · go_enter Try.func47, Try.ntmps47
    go_wp2_with fail
    go_quiet (first | (go_at_call 53; refine Calls.quiet_of_same (cc _)))
    go_wp2
    go_ret
    exact ⟨rfl, nq, rfl⟩

/-- A term with exponents of moderate size. -/
def TB (r : List Int) : Prop := r.length = 3 ∧ (0 ≤ geti r 0 ∧ geti r 0 ≤ 100000) ∧ (0 ≤ geti r 1 ∧ geti r 1 ≤ 100000)
theorem cmpW_lt {x y : List Int} : cmpW x y < 0 ↔ (geti x 0 + geti x 1 < geti y 0 + geti y 1 ∨ (geti x 0 + geti x 1 = geti y 0 + geti y 1 ∧ geti x 0 < geti y 0)) := by
  unfold cmpW Lib.compareInt
  repeat' split
  all_goals omega
theorem term_cells {w : World} {v : Value} {xs : List Int} (h : IntsAt w (fun _ => True) v xs) (h3 : xs.length = 3) : ∃ b o c, v = .slice (some ⟨b, o, none⟩) 3 c ∧ w.cell? ⟨b, o, none⟩ = some (.int .i64 (geti xs 0)) ∧ w.cell? ⟨b, o + 1, none⟩ = some (.int .i64 (geti xs 1)) := by
  obtain ⟨⟨a, cap, rfl, e1, e2, e3⟩, _⟩ := h
  obtain ⟨b, o, rfl, _, hc⟩ := e3 (by simp; omega)
  match xs, h3 with
  | [p, q, r], _ =>
    refine ⟨b, o, cap, rfl, ?_, ?_⟩
    · have := hc 0 (.int .i64 p) rfl; simpa [geti] using this
    · have := hc 1 (.int .i64 q) rfl; simpa [geti] using this
theorem cmpW_ok : CmpOk 47 cmpW TB := by
  refine ⟨⟨_, _, Try.func47, by kernel_rfl, rfl⟩, ?_, ?_, ?_, ?_⟩
  · intro w v1 v2 xs ys h1 h2 t1 t2
    obtain ⟨b1, o1, c1, rfl, p0, p1⟩ := term_cells h1 t1.1
    obtain ⟨b2, o2, c2, rfl, q0, q1⟩ := term_cells h2 t2.1
    refine (compareTerms_k b1 o1 c1 b2 o2 c2 _ _ _ _ w p0 p1 q0 q1 t1.2.1 t1.2.2 t2.2.1 t2.2.2).mono ?_
    rintro e w' ⟨rfl, n, rfl⟩
    exact ⟨rfl, n, #[], by rw [Go.Sort.grow_empty]⟩
  · intro x _; rw [cmpW_lt]; omega
  · intro x y z _ _ _ h1 h2; rw [cmpW_lt] at *; omega
  · intro x y z _ _ _ h1 h2; rw [cmpW_lt] at *; omega
end Go.Proofs.Ytkickbnahajpoaa
