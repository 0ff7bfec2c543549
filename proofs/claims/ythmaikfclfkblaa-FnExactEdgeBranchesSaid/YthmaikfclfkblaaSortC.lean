/-
  The comparison of pairs that the sort is handed, walked by the kit's own steps. No condition.
-/
import Derived.WalkKit
import Derived.Deep.LoopGhost
import Derived.Deep.Draws
import Derived.Lib.Walk
import Derived.Lib.Small
import Derived.Lib.Slices
import Derived.Shelf.RegionOpenPlain
import Derived.Test.YthmaikfclfkblaaProg
namespace Go.Proofs.Ythmaikfclfkblaa
open Go Go.RowKit

/-- Pairs in lexicographic order. -/
def cmp2 (x0 x1 y0 y1 : Int) : Int := if x0 = y0 then Lib.compareInt x1 y1 else Lib.compareInt x0 y0

theorem cmpI_self (x : Int) : Lib.compareInt x x = 0 := by unfold Lib.compareInt; rw [if_neg (by omega), if_neg (by omega)]
theorem cmpI_ne {x y : Int} (h : ¬ x = y) : ¬ Lib.compareInt x y = 0 := by unfold Lib.compareInt; repeat' split
                                                                           all_goals omega

theorem isNaN_k (x : Int) (w : World) : Calls Try.prog 74 #[.int .i64 x] w fun e w' => e = .returned (.bool false) ∧ w' = w := by
  go_enter Try.func74, Try.ntmps74
  go_wp2
  go_ret
  exact ⟨by simp, rfl⟩

set_option maxHeartbeats 1000000 in
theorem cmpCompare_k (x y : Int) (w : World) : Calls Try.prog 63 #[.int .i64 x, .int .i64 y] w fun e w' => e = .returned (.int .i64 (Lib.compareInt x y)) ∧ w' = w := by
  go_enter Try.func63, Try.ntmps63
  go_wp2_with (go_at_call 74; refine (isNaN_k _ _).mono ?_; rintro e w' ⟨rfl, hw⟩; rw [hw])
  all_goals (go_ret; refine ⟨?_, rfl⟩; unfold Lib.compareInt; (repeat' split) <;> first | rfl | (exfalso; omega))

set_option maxHeartbeats 2000000 in
theorem compare_k (b1 o1 c1 b2 o2 c2 : Nat) (x0 x1 y0 y1 : Int) (w : World) (h0 : w.cell? ⟨b1, o1, none⟩ = some (.int .i64 x0)) (h1 : w.cell? ⟨b1, o1 + 1, none⟩ = some (.int .i64 x1)) (g0 : w.cell? ⟨b2, o2, none⟩ = some (.int .i64 y0)) (g1 : w.cell? ⟨b2, o2 + 1, none⟩ = some (.int .i64 y1)) :
    Calls Try.prog 56 #[.slice (some ⟨b1, o1, none⟩) 2 c1, .slice (some ⟨b2, o2, none⟩) 2 c2] w fun e w' => e = .returned (.int .i64 (cmp2 x0 x1 y0 y1)) ∧ w' = w := by
  go_enter Try.func56, Try.ntmps56
  go_wp2
  go_loopg [11] 2 (fun g s11 wr => ∃ k : Nat, k ≤ 2 ∧ 2 - k ≤ g ∧ s11 = .int .i64 k ∧ wr = w ∧ (1 ≤ k → x0 = y0) ∧ (2 ≤ k → x1 = y1))
  case atStart => exact ⟨0, by omega, by omega, rfl, rfl, fun h => by omega, fun h => by omega⟩
  case round =>
    obtain ⟨k, hk, hg, rfl, rfl, e0, e1⟩ := hrel
    rcases (show k = 0 ∨ k = 1 ∨ k = 2 by omega) with rfl | rfl | rfl
    · by_cases e : x0 = y0
      · subst e
        clear e0 e1
        go_wp2_with (go_at_call 63; refine (cmpCompare_k _ _ _).mono ?_; rintro e w' ⟨rfl, hw⟩; rw [hw, cmpI_self])
        go_roundg (2 - 1)
        case measure => omega
        case rel => exact ⟨1, by omega, by omega, rfl, rfl, by simp, by simp⟩
      · have hn := cmpI_ne e
        have A0 : cmp2 x0 x1 y0 y1 = Lib.compareInt x0 y0 := by unfold cmp2; rw [if_neg e]
        have A : Aside (cmp2 x0 x1 y0 y1 = Lib.compareInt x0 y0) := A0
        clear A0
        clear e0 e1 e
        generalize hr : Lib.compareInt x0 y0 = r at hn A
        have B : Aside (Lib.compareInt x0 y0 = r) := hr
        clear hr
        go_wp2_with (go_at_call 63; refine (cmpCompare_k _ _ _).mono ?_; rintro e w' ⟨rfl, hw⟩; rw [hw, B.out])
        go_ret
        exact ⟨by rw [A.out]; rfl, rfl⟩
    · have e := e0 (by omega)
      subst e
      clear e0
      by_cases e : x1 = y1
      · subst e
        clear e1
        go_wp2_with (go_at_call 63; refine (cmpCompare_k _ _ _).mono ?_; rintro e w' ⟨rfl, hw⟩; rw [hw, cmpI_self])
        go_roundg (2 - 2)
        case measure => omega
        case rel => exact ⟨2, by omega, by omega, rfl, rfl, by simp, by simp⟩
      · have hn := cmpI_ne e
        have A0 : cmp2 x0 x1 x0 y1 = Lib.compareInt x1 y1 := by unfold cmp2; rw [if_pos rfl]
        have A : Aside (cmp2 x0 x1 x0 y1 = Lib.compareInt x1 y1) := A0
        clear A0
        clear e1 e
        generalize hr : Lib.compareInt x1 y1 = r at hn A
        have B : Aside (Lib.compareInt x1 y1 = r) := hr
        clear hr
        go_wp2_with (go_at_call 63; refine (cmpCompare_k _ _ _).mono ?_; rintro e w' ⟨rfl, hw⟩; rw [hw, B.out])
        go_ret
        exact ⟨by rw [A.out]; rfl, rfl⟩
    · have e := e0 (by omega)
      have e' := e1 (by omega)
      subst e
      subst e'
      clear e0 e1
      have A0 : cmp2 x0 x1 x0 x1 = 0 := by unfold cmp2; rw [if_pos rfl, cmpI_self]
      have A : Aside (cmp2 x0 x1 x0 x1 = 0) := A0
      clear A0
      go_wp2
      go_ret
      exact ⟨by rw [A.out]; rfl, rfl⟩

/-- The closure. -/
theorem closure_k (b1 o1 c1 b2 o2 c2 : Nat) (x0 x1 y0 y1 : Int) (w : World) (h0 : w.cell? ⟨b1, o1, none⟩ = some (.int .i64 x0)) (h1 : w.cell? ⟨b1, o1 + 1, none⟩ = some (.int .i64 x1)) (g0 : w.cell? ⟨b2, o2, none⟩ = some (.int .i64 y0)) (g1 : w.cell? ⟨b2, o2 + 1, none⟩ = some (.int .i64 y1)) :
    Calls Try.prog 55 #[.slice (some ⟨b1, o1, none⟩) 2 c1, .slice (some ⟨b2, o2, none⟩) 2 c2] w fun e w' => e = .returned (.int .i64 (cmp2 x0 x1 y0 y1)) ∧ w' = w := by
  have hcon := compare_k b1 o1 c1 b2 o2 c2 x0 x1 y0 y1 w h0 h1 g0 g1
  clear h0 h1 g0 g1
  generalize cmp2 x0 x1 y0 y1 = r at hcon ⊢
  go_enter Try.func55, Try.ntmps55
  go_wp2_with (go_at_call 56; refine hcon.mono ?_; rintro e w' ⟨rfl, rfl⟩)
  go_ret
  exact ⟨rfl, rfl⟩
end Go.Proofs.Ythmaikfclfkblaa
