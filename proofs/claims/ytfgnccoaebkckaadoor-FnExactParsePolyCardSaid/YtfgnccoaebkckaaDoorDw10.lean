/-
  The program's reading of a term: walk. Condition: a bound on the text's length.
-/
import Derived.Test.YtfgnccoaebkckaaDoorDw8
namespace Go.Proofs.YtfgnccoaebkckaaDoor
open Go Go.RowKit
attribute [local irreducible] AWp AOps ResIs Ret1 QOp LOp COp AFnV AFn Imms LeE LeO
set_option maxHeartbeats 1000000
set_option linter.unusedSimpArgs false
set_option linter.unusedVariables false

/-- A term that was read, or none. -/
def IsTerm (w : List UInt8) (r : AV) (os : List AO) : Prop := ∃ xs, r = .tup [.own 0, .val (.bool (tmI w).isSome)] ∧ os = [.sli 2 xs] ∧ ∀ t, tmI w = some t → xs = t
theorem polyTerm_c (w : List UInt8) (hl : w.length ≤ 1048576) : AFn Tryd.prog 26 [.s w] (IsTerm w) := by
  by_cases h1 : w = []
  · subst h1
    (refine AFn.start Tryd.func26 Tryd.ntmps26 rfl (by kernel_rfl) fun hk => ?_; simp only [Env.start, enumF, List.length_cons, List.length_nil, Nat.reduceAdd, Nat.reduceSub, List.cons_append, List.nil_append])
    repeat' (first | (apply AOps.nil; try simp only [List.nil_append, List.cons_append, List.set_cons_zero, List.set_cons_succ, List.length_cons, List.length_nil, Nat.reduceAdd, sL_sh, AV.sh, AV.sh1, AV.sh0, AO.sh, List.map_cons, List.map_nil, Nat.zero_add, Nat.add_zero, setAll]) | ((apply AOps.splitP; exact rfl; exact rfl) <;> intro h) | (apply w_move; exact rfl; exact rfl) | (apply w_assign; exact rfl; exact rfl) | apply AWp.seq | apply AWp.region | ((apply AWp.condN; exact rfl) <;> intro h) | (apply AWp.condF; exact rfl) | apply AWp.ret | apply AWp.skip | (apply w_skip; exact rfl) | (apply w_pickF; exact rfl; exact rfl; exact rfl) | (apply w_sidx; (exact rfl); exact rfl; exact rfl) | (apply w_sneq; (exact rfl); exact rfl; exact rfl) | omega | contradiction | ((apply w_not); iterate 2 exact rfl))
    all_goals exact ⟨_, _, _, .a2 Tryd.results26 rfl rfl, .tup2 (.nil 2), [], rfl, rfl, fun t h => by cases h⟩
  have hp : 0 < w.length := List.length_pos_iff.2 h1
  have hb0 := bt_is (s := w) (i := 0) (cb := 120) (c := 120) rfl
  have hb1 := bt_is (s := w) (i := 0) (cb := 121) (c := 121) rfl
  simp only [Int.natCast_zero] at hb0 hb1
  by_cases hD : w.getD 0 0 ≠ 120 ∧ w.getD 0 0 ≠ 121
  · have hD' : bt w 0 ≠ 120 ∧ bt w 0 ≠ 121 := ⟨fun h => hD.1 (hb0.1 h), fun h => hD.2 (hb1.1 h)⟩
    have cd := digitsOf_c w hl
    cases hk : dgOk w with
    | false =>
      rw [hk] at cd
      have hC : tmI w = none := by unfold tmI tmC exV; rw [if_neg h1, if_pos hD, hk]; rfl
      (refine AFn.start Tryd.func26 Tryd.ntmps26 rfl (by kernel_rfl) fun hk => ?_; simp only [Env.start, enumF, List.length_cons, List.length_nil, Nat.reduceAdd, Nat.reduceSub, List.cons_append, List.nil_append])
      repeat' (first | (apply AOps.nil; try simp only [List.nil_append, List.cons_append, List.set_cons_zero, List.set_cons_succ, List.length_cons, List.length_nil, Nat.reduceAdd, sL_sh, AV.sh, AV.sh1, AV.sh0, AO.sh, List.map_cons, List.map_nil, Nat.zero_add, Nat.add_zero, setAll]) | ((apply AOps.splitP; exact rfl; exact rfl) <;> intro h) | (apply w_move; exact rfl; exact rfl) | (apply w_assign; exact rfl; exact rfl) | apply AWp.seq | apply AWp.region | ((apply AWp.condP; exact rfl) <;> intro h) | (apply AWp.condT; exact rfl) | (apply AWp.condF; exact rfl) | apply AWp.ret | apply AWp.skip | (apply w_skip; exact rfl) | (apply w_pickT; exact rfl; exact rfl; exact rfl) | (apply w_pickF; exact rfl; exact rfl; exact rfl) | (apply w_sidx; (exact rfl); exact rfl; exact rfl) | (apply w_sneq; (exact rfl); exact rfl; exact rfl) | omega | contradiction | (apply w_call (cd); exact rfl; exact rfl; focus ((repeat (first | exact im_nil | refine im_cons rfl (.val _) ?_)); done)) | ((first | apply w_neq | apply w_extv); iterate 3 exact rfl) | ((apply w_not); iterate 2 exact rfl))
      all_goals exact ⟨_, _, _, .a2 Tryd.results26 rfl rfl, .tup2 (.nil 2), [], by rw [hC]; rfl, rfl, fun t h => by rw [hC] at h; cases h⟩
    | true =>
      rw [if_pos hk, if_pos hk, hk] at cd
      have hV : exV w = some (vl (w.take (ndg w)), w.drop (ndg w)) := by rw [exV, if_pos hk]
      have hT : tmC w = some (vl (w.take (ndg w)), w.drop (ndg w)) := by unfold tmC; rw [if_pos hD, hV]
      obtain ⟨hcb, hrb⟩ := exV_b hV
      generalize vl (w.take (ndg w)) = c at cd hT hcb
      generalize w.drop (ndg w) = rest at cd hT hrb
      cases hx : exT 120 rest with
      | none =>
        have ex := exponentOf_c rest 120 120 rfl (by omega)
        rw [hx] at ex
        simp only [Option.getD_some, Option.getD_none, Option.isSome_some, Option.isSome_none] at ex
        have hC : tmI w = none := by unfold tmI; rw [if_neg h1, hT]; simp only [hx]
        (refine AFn.start Tryd.func26 Tryd.ntmps26 rfl (by kernel_rfl) fun hk => ?_; simp only [Env.start, enumF, List.length_cons, List.length_nil, Nat.reduceAdd, Nat.reduceSub, List.cons_append, List.nil_append])
        repeat' (first | (apply AOps.nil; try simp only [List.nil_append, List.cons_append, List.set_cons_zero, List.set_cons_succ, List.length_cons, List.length_nil, Nat.reduceAdd, sL_sh, AV.sh, AV.sh1, AV.sh0, AO.sh, List.map_cons, List.map_nil, Nat.zero_add, Nat.add_zero, setAll]) | ((apply AOps.splitP; exact rfl; exact rfl) <;> intro h) | (apply w_move; exact rfl; exact rfl) | (apply w_assign; exact rfl; exact rfl) | apply AWp.seq | apply AWp.region | ((apply AWp.condP; exact rfl) <;> intro h) | (apply AWp.condT; exact rfl) | (apply AWp.condF; exact rfl) | apply AWp.ret | apply AWp.skip | (apply w_skip; exact rfl) | (apply w_pickT; exact rfl; exact rfl; exact rfl) | (apply w_pickF; exact rfl; exact rfl; exact rfl) | (apply w_sidx; (exact rfl); exact rfl; exact rfl) | (apply w_sneq; (exact rfl); exact rfl; exact rfl) | omega | contradiction | (apply w_call (cd); exact rfl; exact rfl; focus ((repeat (first | exact im_nil | refine im_cons rfl (.val _) ?_)); done)) | (apply w_call (ex); exact rfl; exact rfl; focus ((repeat (first | exact im_nil | refine im_cons rfl (.val _) ?_)); done)) | ((first | apply w_neq | apply w_extv); iterate 3 exact rfl) | ((apply w_not); iterate 2 exact rfl))
        all_goals exact ⟨_, _, _, .a2 Tryd.results26 rfl rfl, .tup2 (.nil 2), [], by rw [hC]; rfl, rfl, fun t h => by rw [hC] at h; cases h⟩
      | some p =>
        obtain ⟨i, r1⟩ := p
        have ex := exponentOf_c rest 120 120 rfl (by omega)
        rw [hx] at ex
        simp only [Option.getD_some, Option.getD_none, Option.isSome_some, Option.isSome_none] at ex
        obtain ⟨hib, hr1⟩ := exT_b hx
        have ey := exponentOf_c r1 121 121 rfl (by omega)
        cases hy : exT 121 r1 with
        | none =>
          rw [hy] at ey
          simp only [Option.getD_some, Option.getD_none, Option.isSome_some, Option.isSome_none] at ey
          have hC : tmI w = none := by unfold tmI; rw [if_neg h1, hT]; simp only [hx, hy]
          (refine AFn.start Tryd.func26 Tryd.ntmps26 rfl (by kernel_rfl) fun hk => ?_; simp only [Env.start, enumF, List.length_cons, List.length_nil, Nat.reduceAdd, Nat.reduceSub, List.cons_append, List.nil_append])
          repeat' (first | (apply AOps.nil; try simp only [List.nil_append, List.cons_append, List.set_cons_zero, List.set_cons_succ, List.length_cons, List.length_nil, Nat.reduceAdd, sL_sh, AV.sh, AV.sh1, AV.sh0, AO.sh, List.map_cons, List.map_nil, Nat.zero_add, Nat.add_zero, setAll]) | ((apply AOps.splitP; exact rfl; exact rfl) <;> intro h) | (apply w_move; exact rfl; exact rfl) | (apply w_assign; exact rfl; exact rfl) | apply AWp.seq | apply AWp.region | ((apply AWp.condP; exact rfl) <;> intro h) | (apply AWp.condF; exact rfl) | apply AWp.ret | apply AWp.skip | (apply w_skip; exact rfl) | (apply w_pickT; exact rfl; exact rfl; exact rfl) | (apply w_pickF; exact rfl; exact rfl; exact rfl) | (apply w_sidx; (exact rfl); exact rfl; exact rfl) | (apply w_sneq; (exact rfl); exact rfl; exact rfl) | ((apply w_bs3); iterate 4 exact rfl) | omega | contradiction | (apply w_call (cd); exact rfl; exact rfl; focus ((repeat (first | exact im_nil | refine im_cons rfl (.val _) ?_)); done)) | (apply w_call (ex); exact rfl; exact rfl; focus ((repeat (first | exact im_nil | refine im_cons rfl (.val _) ?_)); done)) | (apply w_call (ey); exact rfl; exact rfl; focus ((repeat (first | exact im_nil | refine im_cons rfl (.val _) ?_)); done)) | ((first | apply w_neq | apply w_extv); iterate 3 exact rfl) | ((apply w_not); iterate 2 exact rfl) | (apply inI_of <;> omega))
          all_goals exact ⟨_, _, _, .a2 Tryd.results26 rfl rfl, .tup2 (.sli rfl), _, by rw [hC]; rfl, rfl, fun t h => by rw [hC] at h; cases h⟩
        | some p2 =>
          obtain ⟨j, r2⟩ := p2
          rw [hy] at ey
          simp only [Option.getD_some, Option.getD_none, Option.isSome_some, Option.isSome_none] at ey
          obtain ⟨hjb, hr2⟩ := exT_b hy
          have hC : tmI w = if r2 = [] then some [i, j, c] else none := by unfold tmI; rw [if_neg h1, hT]; simp only [hx, hy]
          by_cases h2 : r2 = []
          · rw [if_pos h2] at hC
            (refine AFn.start Tryd.func26 Tryd.ntmps26 rfl (by kernel_rfl) fun hk => ?_; simp only [Env.start, enumF, List.length_cons, List.length_nil, Nat.reduceAdd, Nat.reduceSub, List.cons_append, List.nil_append])
            repeat' (first | (apply AOps.nil; try simp only [List.nil_append, List.cons_append, List.set_cons_zero, List.set_cons_succ, List.length_cons, List.length_nil, Nat.reduceAdd, sL_sh, AV.sh, AV.sh1, AV.sh0, AO.sh, List.map_cons, List.map_nil, Nat.zero_add, Nat.add_zero, setAll]) | ((apply AOps.splitP; exact rfl; exact rfl) <;> intro h) | (apply w_move; exact rfl; exact rfl) | (apply w_assign; exact rfl; exact rfl) | apply AWp.seq | apply AWp.region | ((apply AWp.condP; exact rfl) <;> intro h) | (apply AWp.condF; exact rfl) | apply AWp.ret | apply AWp.skip | (apply w_skip; exact rfl) | (apply w_pickT; exact rfl; exact rfl; exact rfl) | (apply w_pickF; exact rfl; exact rfl; exact rfl) | (apply w_sidx; (exact rfl); exact rfl; exact rfl) | (apply w_seql; (exact rfl); exact rfl; exact rfl) | (apply w_sneq; (exact rfl); exact rfl; exact rfl) | ((apply w_bs3); iterate 4 exact rfl) | omega | contradiction | (apply w_call (cd); exact rfl; exact rfl; focus ((repeat (first | exact im_nil | refine im_cons rfl (.val _) ?_)); done)) | (apply w_call (ex); exact rfl; exact rfl; focus ((repeat (first | exact im_nil | refine im_cons rfl (.val _) ?_)); done)) | (apply w_call (ey); exact rfl; exact rfl; focus ((repeat (first | exact im_nil | refine im_cons rfl (.val _) ?_)); done)) | ((first | apply w_neq | apply w_extv); iterate 3 exact rfl) | ((apply w_not); iterate 2 exact rfl) | (apply inI_of <;> omega))
            all_goals exact ⟨_, _, _, .a2 Tryd.results26 rfl rfl, .tup2 (.sli rfl), _, by rw [hC]; simp [h2], rfl, fun t h => by rw [hC] at h; cases h; rfl⟩
          · rw [if_neg h2] at hC
            (refine AFn.start Tryd.func26 Tryd.ntmps26 rfl (by kernel_rfl) fun hk => ?_; simp only [Env.start, enumF, List.length_cons, List.length_nil, Nat.reduceAdd, Nat.reduceSub, List.cons_append, List.nil_append])
            repeat' (first | (apply AOps.nil; try simp only [List.nil_append, List.cons_append, List.set_cons_zero, List.set_cons_succ, List.length_cons, List.length_nil, Nat.reduceAdd, sL_sh, AV.sh, AV.sh1, AV.sh0, AO.sh, List.map_cons, List.map_nil, Nat.zero_add, Nat.add_zero, setAll]) | ((apply AOps.splitP; exact rfl; exact rfl) <;> intro h) | (apply w_move; exact rfl; exact rfl) | (apply w_assign; exact rfl; exact rfl) | apply AWp.seq | apply AWp.region | ((apply AWp.condP; exact rfl) <;> intro h) | (apply AWp.condF; exact rfl) | apply AWp.ret | apply AWp.skip | (apply w_skip; exact rfl) | (apply w_pickT; exact rfl; exact rfl; exact rfl) | (apply w_pickF; exact rfl; exact rfl; exact rfl) | (apply w_sidx; (exact rfl); exact rfl; exact rfl) | (apply w_seql; (exact rfl); exact rfl; exact rfl) | (apply w_sneq; (exact rfl); exact rfl; exact rfl) | ((apply w_bs3); iterate 4 exact rfl) | omega | contradiction | (apply w_call (cd); exact rfl; exact rfl; focus ((repeat (first | exact im_nil | refine im_cons rfl (.val _) ?_)); done)) | (apply w_call (ex); exact rfl; exact rfl; focus ((repeat (first | exact im_nil | refine im_cons rfl (.val _) ?_)); done)) | (apply w_call (ey); exact rfl; exact rfl; focus ((repeat (first | exact im_nil | refine im_cons rfl (.val _) ?_)); done)) | ((first | apply w_neq | apply w_extv); iterate 3 exact rfl) | ((apply w_not); iterate 2 exact rfl) | (apply inI_of <;> omega))
            all_goals exact ⟨_, _, _, .a2 Tryd.results26 rfl rfl, .tup2 (.sli rfl), _, by rw [hC]; simp [h2], rfl, fun t h => by rw [hC] at h; cases h⟩
  · have hD' : ¬ (bt w 0 ≠ 120 ∧ bt w 0 ≠ 121) := fun h => hD ⟨fun e => h.1 (hb0.2 e), fun e => h.2 (hb1.2 e)⟩
    have hT : tmC w = some (1, w) := by unfold tmC; rw [if_neg hD]
    cases hx : exT 120 w with
    | none =>
      have ex := exponentOf_c w 120 120 rfl (by omega)
      rw [hx] at ex
      simp only [Option.getD_some, Option.getD_none, Option.isSome_some, Option.isSome_none] at ex
      have hC : tmI w = none := by unfold tmI; rw [if_neg h1, hT]; simp only [hx]
      (refine AFn.start Tryd.func26 Tryd.ntmps26 rfl (by kernel_rfl) fun hk => ?_; simp only [Env.start, enumF, List.length_cons, List.length_nil, Nat.reduceAdd, Nat.reduceSub, List.cons_append, List.nil_append])
      repeat' (first | (apply AOps.nil; try simp only [List.nil_append, List.cons_append, List.set_cons_zero, List.set_cons_succ, List.length_cons, List.length_nil, Nat.reduceAdd, sL_sh, AV.sh, AV.sh1, AV.sh0, AO.sh, List.map_cons, List.map_nil, Nat.zero_add, Nat.add_zero, setAll]) | ((apply AOps.splitP; exact rfl; exact rfl) <;> intro h) | (apply w_move; exact rfl; exact rfl) | (apply w_assign; exact rfl; exact rfl) | apply AWp.seq | apply AWp.region | ((apply AWp.condP; exact rfl) <;> intro h) | ((apply AWp.condN; exact rfl) <;> intro h) | (apply AWp.condT; exact rfl) | (apply AWp.condF; exact rfl) | apply AWp.ret | apply AWp.skip | (apply w_skip; exact rfl) | (apply w_pickT; exact rfl; exact rfl; exact rfl) | (apply w_pickF; exact rfl; exact rfl; exact rfl) | (apply w_sidx; (exact rfl); exact rfl; exact rfl) | (apply w_sneq; (exact rfl); exact rfl; exact rfl) | omega | contradiction | (apply w_call (ex); exact rfl; exact rfl; focus ((repeat (first | exact im_nil | refine im_cons rfl (.val _) ?_)); done)) | ((first | apply w_neq | apply w_extv); iterate 3 exact rfl) | ((apply w_not); iterate 2 exact rfl))
      all_goals exact ⟨_, _, _, .a2 Tryd.results26 rfl rfl, .tup2 (.nil 2), [], by rw [hC]; rfl, rfl, fun t h => by rw [hC] at h; cases h⟩
    | some p =>
      obtain ⟨i, r1⟩ := p
      have ex := exponentOf_c w 120 120 rfl (by omega)
      rw [hx] at ex
      simp only [Option.getD_some, Option.getD_none, Option.isSome_some, Option.isSome_none] at ex
      obtain ⟨hib, hr1⟩ := exT_b hx
      have ey := exponentOf_c r1 121 121 rfl (by omega)
      cases hy : exT 121 r1 with
      | none =>
        rw [hy] at ey
        simp only [Option.getD_some, Option.getD_none, Option.isSome_some, Option.isSome_none] at ey
        have hC : tmI w = none := by unfold tmI; rw [if_neg h1, hT]; simp only [hx, hy]
        (refine AFn.start Tryd.func26 Tryd.ntmps26 rfl (by kernel_rfl) fun hk => ?_; simp only [Env.start, enumF, List.length_cons, List.length_nil, Nat.reduceAdd, Nat.reduceSub, List.cons_append, List.nil_append])
        repeat' (first | (apply AOps.nil; try simp only [List.nil_append, List.cons_append, List.set_cons_zero, List.set_cons_succ, List.length_cons, List.length_nil, Nat.reduceAdd, sL_sh, AV.sh, AV.sh1, AV.sh0, AO.sh, List.map_cons, List.map_nil, Nat.zero_add, Nat.add_zero, setAll]) | ((apply AOps.splitP; exact rfl; exact rfl) <;> intro h) | (apply w_move; exact rfl; exact rfl) | (apply w_assign; exact rfl; exact rfl) | apply AWp.seq | apply AWp.region | ((apply AWp.condP; exact rfl) <;> intro h) | ((apply AWp.condN; exact rfl) <;> intro h) | (apply AWp.condF; exact rfl) | apply AWp.ret | apply AWp.skip | (apply w_skip; exact rfl) | (apply w_pickT; exact rfl; exact rfl; exact rfl) | (apply w_pickF; exact rfl; exact rfl; exact rfl) | (apply w_sidx; (exact rfl); exact rfl; exact rfl) | (apply w_sneq; (exact rfl); exact rfl; exact rfl) | ((apply w_bs3); iterate 4 exact rfl) | omega | contradiction | (apply w_call (ex); exact rfl; exact rfl; focus ((repeat (first | exact im_nil | refine im_cons rfl (.val _) ?_)); done)) | (apply w_call (ey); exact rfl; exact rfl; focus ((repeat (first | exact im_nil | refine im_cons rfl (.val _) ?_)); done)) | ((first | apply w_neq | apply w_extv); iterate 3 exact rfl) | ((apply w_not); iterate 2 exact rfl) | (apply inI_of <;> omega))
        all_goals exact ⟨_, _, _, .a2 Tryd.results26 rfl rfl, .tup2 (.sli rfl), _, by rw [hC]; rfl, rfl, fun t h => by rw [hC] at h; cases h⟩
      | some p2 =>
        obtain ⟨j, r2⟩ := p2
        rw [hy] at ey
        simp only [Option.getD_some, Option.getD_none, Option.isSome_some, Option.isSome_none] at ey
        obtain ⟨hjb, hr2⟩ := exT_b hy
        have hC : tmI w = if r2 = [] then some [i, j, 1] else none := by unfold tmI; rw [if_neg h1, hT]; simp only [hx, hy]
        by_cases h2 : r2 = []
        · rw [if_pos h2] at hC
          (refine AFn.start Tryd.func26 Tryd.ntmps26 rfl (by kernel_rfl) fun hk => ?_; simp only [Env.start, enumF, List.length_cons, List.length_nil, Nat.reduceAdd, Nat.reduceSub, List.cons_append, List.nil_append])
          repeat' (first | (apply AOps.nil; try simp only [List.nil_append, List.cons_append, List.set_cons_zero, List.set_cons_succ, List.length_cons, List.length_nil, Nat.reduceAdd, sL_sh, AV.sh, AV.sh1, AV.sh0, AO.sh, List.map_cons, List.map_nil, Nat.zero_add, Nat.add_zero, setAll]) | ((apply AOps.splitP; exact rfl; exact rfl) <;> intro h) | (apply w_move; exact rfl; exact rfl) | (apply w_assign; exact rfl; exact rfl) | apply AWp.seq | apply AWp.region | ((apply AWp.condP; exact rfl) <;> intro h) | ((apply AWp.condN; exact rfl) <;> intro h) | (apply AWp.condF; exact rfl) | apply AWp.ret | apply AWp.skip | (apply w_skip; exact rfl) | (apply w_pickT; exact rfl; exact rfl; exact rfl) | (apply w_pickF; exact rfl; exact rfl; exact rfl) | (apply w_sidx; (exact rfl); exact rfl; exact rfl) | (apply w_seql; (exact rfl); exact rfl; exact rfl) | (apply w_sneq; (exact rfl); exact rfl; exact rfl) | ((apply w_bs3); iterate 4 exact rfl) | omega | contradiction | (apply w_call (ex); exact rfl; exact rfl; focus ((repeat (first | exact im_nil | refine im_cons rfl (.val _) ?_)); done)) | (apply w_call (ey); exact rfl; exact rfl; focus ((repeat (first | exact im_nil | refine im_cons rfl (.val _) ?_)); done)) | ((first | apply w_neq | apply w_extv); iterate 3 exact rfl) | ((apply w_not); iterate 2 exact rfl) | (apply inI_of <;> omega))
          all_goals exact ⟨_, _, _, .a2 Tryd.results26 rfl rfl, .tup2 (.sli rfl), _, by rw [hC]; simp [h2], rfl, fun t h => by rw [hC] at h; cases h; rfl⟩
        · rw [if_neg h2] at hC
          (refine AFn.start Tryd.func26 Tryd.ntmps26 rfl (by kernel_rfl) fun hk => ?_; simp only [Env.start, enumF, List.length_cons, List.length_nil, Nat.reduceAdd, Nat.reduceSub, List.cons_append, List.nil_append])
          repeat' (first | (apply AOps.nil; try simp only [List.nil_append, List.cons_append, List.set_cons_zero, List.set_cons_succ, List.length_cons, List.length_nil, Nat.reduceAdd, sL_sh, AV.sh, AV.sh1, AV.sh0, AO.sh, List.map_cons, List.map_nil, Nat.zero_add, Nat.add_zero, setAll]) | ((apply AOps.splitP; exact rfl; exact rfl) <;> intro h) | (apply w_move; exact rfl; exact rfl) | (apply w_assign; exact rfl; exact rfl) | apply AWp.seq | apply AWp.region | ((apply AWp.condP; exact rfl) <;> intro h) | ((apply AWp.condN; exact rfl) <;> intro h) | (apply AWp.condF; exact rfl) | apply AWp.ret | apply AWp.skip | (apply w_skip; exact rfl) | (apply w_pickT; exact rfl; exact rfl; exact rfl) | (apply w_pickF; exact rfl; exact rfl; exact rfl) | (apply w_sidx; (exact rfl); exact rfl; exact rfl) | (apply w_seql; (exact rfl); exact rfl; exact rfl) | (apply w_sneq; (exact rfl); exact rfl; exact rfl) | ((apply w_bs3); iterate 4 exact rfl) | omega | contradiction | (apply w_call (ex); exact rfl; exact rfl; focus ((repeat (first | exact im_nil | refine im_cons rfl (.val _) ?_)); done)) | (apply w_call (ey); exact rfl; exact rfl; focus ((repeat (first | exact im_nil | refine im_cons rfl (.val _) ?_)); done)) | ((first | apply w_neq | apply w_extv); iterate 3 exact rfl) | ((apply w_not); iterate 2 exact rfl) | (apply inI_of <;> omega))
          all_goals exact ⟨_, _, _, .a2 Tryd.results26 rfl rfl, .tup2 (.sli rfl), _, by rw [hC]; simp [h2], rfl, fun t h => by rw [hC] at h; cases h⟩
end Go.Proofs.YtfgnccoaebkckaaDoor
