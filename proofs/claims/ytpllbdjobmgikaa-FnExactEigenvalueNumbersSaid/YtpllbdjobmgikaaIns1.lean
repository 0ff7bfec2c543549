/-
  slices.Insert at slices of rows: one row more. No condition but a bound on the size.
-/
import Derived.WalkKit
import Derived.Deep.LoopGhost
import Derived.Deep.Draws
import Derived.Lib.Walk
import Derived.Lib.SliceRun
import Derived.Lib.JoinLaws
import Derived.Lib.AppendZeros
import Derived.Lib.Overlaps
import Derived.Laws.Externs
import Derived.Laws.IdiomCopy
import Derived.Laws.AppendOwn
import Derived.Maps.AppendAt
import Derived.Shelf.RegionOpenPlain
import Derived.Test.YtpllbdjobmgikaaAmTypes
import Derived.Test.YtpllbdjobmgikaaAmMore2
namespace Go.Proofs.Ytpllbdjobmgikaa
open Go Go.RowKit Go.Lib
set_option linter.unusedVariables false
set_option linter.unusedSimpArgs false

set_option maxHeartbeats 4000000 in
set_option maxRecDepth 100000 in
/-- At the end. -/
theorem ins_end_k (base b n c vb vc : Nat) (cs : List Value) (rv : Value) (w : World) (hown : w.ownsRow base 31 1 (.slice (some ⟨b, 0, none⟩) n c) n cs) (hv : w.cell? ⟨vb, 0, none⟩ = some rv) (h1 : rv.oneCell' = true)
    (hn : n ≤ 1000000) (hbase : base ≤ w.heap.size) :
    Calls Try.prog 59 #[.slice (some ⟨b, 0, none⟩) n c, .int .i64 n, .slice (some ⟨vb, 0, none⟩) 1 vc] w fun ev w' =>
      ∃ s', ev = .returned s' ∧ w'.ownsRow base 31 1 s' (n + 1) (cs ++ [rv]) ∧ w.grownBy w' (some b) ∧ (s'.ownBlock = some b ∨ s'.ownBlock = some w.heap.size) := by
  have hc : n ≤ c ∧ c ≤ 9223372036854775807 := by
    rcases hown.2 with ⟨h, _⟩ | ⟨g, cap, cur, h, _, _, h4, h5, _⟩
    · cases h
    · cases h; unfold maxLen at h5; omega
  obtain ⟨ii, hi, hs, hz, hby⟩ := (inferInstance : TElem Try.prog 31 (.slice none 0 0) 24).info
  have ht : Try.prog.underlying 22 = some (.slice 31) := (inferInstance : TSlice Try.prog 22 31).und
  have hnews : ∀ j u, [rv][j]? = some u → w.cell? ((⟨vb, 0, none⟩ : Addr).add j) = some u := fun j u hj => by
    match j, hj with
    | 0, hj => simp at hj; subst hj; rw [Addr.add_zero']; exact hv
  have hones : ∀ u ∈ [rv], u.oneCell' = true := fun u hu => by simp at hu; subst hu; exact h1
  have h63 : n + 1 ≤ maxLen := by unfold maxLen; omega
  have hb24 : (n + 1) * 24 ≤ 140737488355328 := by omega
  obtain ⟨v', w1, r1, r2, r3, r4, r5⟩ := run_append_own_at (P := Try.prog) w base 22 22 31 ii _ 1 24 ht hi hz hs hby rfl (by omega) (.slice (some ⟨b, 0, none⟩) n c) n cs hown ⟨vb, 0, none⟩ 1 vc [rv] (by simp) hnews hones h63 hb24 hbase
  by_cases hcn : c = n
  · subst hcn
    go_enter Try.func59, Try.ntmps59
    go_wp2_with (at_builtin; refine Lib.wpList_append_run _ rfl _ _ _ _ rfl _ _ rfl rfl _ _ r1 ?_)
    go_ret
    exact ⟨_, rfl, r2, r3, r5⟩
  · go_enter Try.func59, Try.ntmps59
    go_wp2_with (at_builtin; refine Lib.wpList_append_run _ rfl _ _ _ _ rfl _ _ rfl rfl _ _ r1 ?_)
    go_ret
    exact ⟨_, rfl, r2, r3, r5⟩
set_option maxHeartbeats 4000000 in
set_option maxRecDepth 100000 in
/-- To no slice. -/
theorem ins_nil_k (base vb vc : Nat) (rv : Value) (w : World) (hv : w.cell? ⟨vb, 0, none⟩ = some rv) (h1 : rv.oneCell' = true) (hbase : base ≤ w.heap.size) :
    Calls Try.prog 59 #[.slice none 0 0, .int .i64 0, .slice (some ⟨vb, 0, none⟩) 1 vc] w fun ev w' =>
      ∃ s', ev = .returned s' ∧ w'.ownsRow base 31 1 s' 1 [rv] ∧ w.grownBy w' none ∧ (s'.ownBlock = none ∨ s'.ownBlock = some w.heap.size) := by
  obtain ⟨ii, hi, hs, hz, hby⟩ := (inferInstance : TElem Try.prog 31 (.slice none 0 0) 24).info
  have ht : Try.prog.underlying 22 = some (.slice 31) := (inferInstance : TSlice Try.prog 22 31).und
  have hnews : ∀ j u, [rv][j]? = some u → w.cell? ((⟨vb, 0, none⟩ : Addr).add j) = some u := fun j u hj => by
    match j, hj with
    | 0, hj => simp at hj; subst hj; rw [Addr.add_zero']; exact hv
  have hones : ∀ u ∈ [rv], u.oneCell' = true := fun u hu => by simp at hu; subst hu; exact h1
  obtain ⟨v', w1, r1, r2, r3, r4, r5⟩ := run_append_own_at (P := Try.prog) w base 22 22 31 ii _ 1 24 ht hi hz hs hby rfl (by omega) (.slice none 0 0) 0 [] (World.ownsRow_nil _ _ _ _) ⟨vb, 0, none⟩ 1 vc [rv] (by simp) hnews hones (by simp [maxLen]) (by omega) hbase
  go_enter Try.func59, Try.ntmps59
  go_wp2_with (at_builtin; refine Lib.wpList_append_run _ rfl _ _ _ _ rfl _ _ rfl rfl _ _ r1 ?_)
  go_ret
  exact ⟨_, rfl, by simpa using r2, r3, r5⟩
end Go.Proofs.Ytpllbdjobmgikaa
