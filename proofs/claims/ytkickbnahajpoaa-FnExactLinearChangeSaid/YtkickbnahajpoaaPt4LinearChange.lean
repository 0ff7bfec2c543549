/-
  Parts of the proof, one behind the other: contracts of functions and plain laws. No condition.
-/
import Derived.Shelf.SlSortCmp.Whole1
import Derived.Test.YtkickbnahajpoaaProg
import Derived.WalkKit
import Derived.Deep.LoopGhost
import Derived.Deep.Draws
import Derived.Lib.Walk
import Derived.Lib.Small
import Derived.Lib.Slices
import Derived.Shelf.RegionOpenPlain
import Derived.Deep.QuietTactic
import Derived.Maps.RangeRun
import Derived.ChangeKeysEq
import GoSem.Instr.MapUpdate
import GoSem.Instr.MakeMap
import Derived.Test.YtkickbnahajpoaaPt3LinearChange
/-
  Polynomials: the laws' helpers, whether a value is one, and its order. No condition.
-/
namespace Go.Proofs.Ytkickbnahajpoaa
open Go Go.RowKit
attribute [local irreducible] AWp AOps ResIs Ret1 QOp LOp COp AFnV AFn Imms LeE LeO
set_option maxHeartbeats 1000000
set_option linter.unusedSimpArgs false
set_option linter.unusedVariables false

theorem szR_cases : ∀ (xss : List (List Int)) (l : Int), 0 ≤ l → szR xss l = -1 ∨ 0 ≤ szR xss l
  | [], l, h => .inr h
  | xs :: r, l, h => by
    simp only [szR]
    by_cases e : szI xs l < 0
    · rw [if_pos e]; exact .inl rfl
    · rw [if_neg e]; exact szR_cases r _ (by omega)
theorem szSS_cases (xss : List (List Int)) (left : Int) : szSS xss left = -1 ∨ 0 ≤ szSS xss left := by
  unfold szSS
  split
  · exact .inl rfl
  · exact szR_cases _ _ (by omega)

theorem szPoly_c (xss : List (List Int)) (left : Int) (h0 : -1 ≤ left) (h1 : left ≤ 1048576) : AFnV Try.prog 7 [.agg [.intss xss], .i left] (.int .i64 (szSS xss left)) := by
  (refine AFnV.start Try.func7 Try.ntmps7 rfl (by kernel_rfl) fun hk => ?_; simp only [Env.start, enumF, List.length_cons, List.length_nil, Nat.reduceAdd, Nat.reduceSub, List.cons_append, List.nil_append])
  repeat' (first
  | (apply AOps.nil; try simp only [List.nil_append, List.cons_append, List.set_cons_zero, List.set_cons_succ, List.length_cons, List.length_nil, Nat.reduceAdd, AV.sh, AV.sh1, AV.sh0, AO.sh, List.map_cons, List.map_nil, Nat.zero_add, Nat.add_zero, setAll])
  | ((apply AOps.splitP; exact rfl; exact rfl) <;> intro h)
  | ((apply AOps.splitN; exact rfl; exact rfl) <;> intro h)
  | (apply w_move; exact rfl; exact rfl)
  | (apply w_assign; exact rfl; exact rfl)
  | apply AWp.seq
  | apply AWp.region
  | ((apply AWp.condP; exact rfl) <;> intro h)
  | ((apply AWp.condN; exact rfl) <;> intro h)
  | (apply AWp.condT; exact rfl)
  | (apply AWp.condF; exact rfl)
  | ((apply AWp.condB; exact rfl) <;> intro h)
  | apply AWp.block
  | apply AWp.ret
  | apply AWp.exit
  | apply AWp.skip
  | (apply AWp.regionQ; kernel_rfl; kernel_rfl)
  | (apply if_pos'; exact rfl)
  | (apply if_neg'; decide)
  | (apply w_skip; exact rfl)
  | (apply w_pickT; exact rfl; exact rfl; exact rfl)
  | (apply w_pickF; exact rfl; exact rfl; exact rfl)
  | (apply w_len; exact rfl; exact rfl; first | exact .ints _ | exact .intss _ | exact .sli rfl | exact .sls rfl | exact .slr rfl | exact .orow rfl | exact .nil)
  | (apply w_call (szInt64SS_c _ _ h0 h1); exact rfl; exact rfl; focus ((repeat (first | exact im_nil | refine im_cons rfl (.val _) ?_ | refine im_cons rfl (.ints _) ?_ | refine im_cons rfl (.intss _) ?_ | refine im_cons rfl (.sli rfl) ?_ | refine im_cons rfl (.sls rfl) ?_ | refine im_cons rfl (.orow rfl) ?_ | refine im_cons rfl (.osub rfl (by simp; omega)) ?_ | refine im_cons rfl (.nil) ?_ | refine im_cons rfl (.nils) ?_ | refine im_cons rfl (im_agg2 (.val _) (.ints _)) ?_ | refine im_cons rfl (im_agg2 (.val _) (.sli rfl)) ?_ | refine im_cons rfl (im_agg2 (.val _) (.nil)) ?_ | refine im_cons rfl (im_agg2 (.ints _) (.intss _)) ?_ | refine im_cons rfl (im_agg2 (.ints _) (.sls rfl)) ?_ | refine im_cons rfl (im_agg2 (.sli rfl) (.intss _)) ?_ | refine im_cons rfl (im_agg2 (.sli rfl) (.sls rfl)) ?_ | refine im_cons rfl (im_agg1 (.ints _)) ?_ | refine im_cons rfl (im_agg1 (.sli rfl)) ?_ | refine im_cons rfl (im_agg1 (.intss _)) ?_ | refine im_cons rfl (im_agg1 (.sls rfl)) ?_ | refine im_cons rfl (im_agg1 (.nil)) ?_ | refine im_cons rfl (im_agg1 (.nils)) ?_)); done))
  | ((first | apply w_lss | apply w_leq | apply w_gtr | apply w_geq | apply w_eql | apply w_neq | apply w_add | apply w_sub | apply w_mul | apply w_idx | apply w_ld | apply w_fld | apply w_fa | apply w_extv | apply w_min | apply w_max | apply w_slhi | apply w_sllo | apply w_bs2); iterate 3 exact rfl)
  | ((first | apply w_eqlb | apply w_neqb | apply w_idxs | apply w_lds | apply w_ext); iterate 3 exact rfl)
  | (apply w_rem; exact rfl; exact rfl; exact rfl; (focus (omega; done)); (focus (omega; done)))
  | (apply w_quo; exact rfl; exact rfl; exact rfl; (focus (omega; done)); (focus (omega; done)))
  | (apply w_remT; exact rfl; exact rfl; exact rfl)
  | (apply w_quoT; exact rfl; exact rfl; exact rfl)
  | ((first | apply w_not | apply w_neg | apply w_conv | apply w_build0 | apply w_bs1 | apply w_boxa); iterate 2 exact rfl)
  | (apply w_idxo; exact rfl; exact rfl; (first | exact .sli rfl | exact .sls rfl | exact .slr rfl); exact rfl)
  | ((first | apply w_idxr | apply w_ldr); iterate 4 exact rfl)
  | (apply w_ldo; iterate 4 exact rfl)
  | (apply w_ldls; iterate 4 exact rfl)
  | (apply w_ldrp; iterate 4 exact rfl)
  | (apply w_ldb; iterate 5 exact rfl)
  | (apply w_ldst; iterate 5 exact rfl)
  | ((first | apply w_sllh | apply w_stbi); iterate 4 exact rfl)
  | ((first | apply w_oslo | apply w_oshi | apply w_stbii); iterate 4 exact rfl)
  | (apply w_copy; exact rfl; (first | exact .own rfl rfl rfl | exact .osub); exact rfl; rotate_left 1; exact rfl; (first | exact .ints _ | exact .sli rfl | exact .orow rfl | exact .nil | exact .osub rfl (by simp; omega)))
  | (apply w_build1; exact rfl; exact rfl; (first | exact one_val rfl rfl | exact one_ints | exact one_intss | exact one_own rfl True.intro))
  | (apply w_build2; exact rfl; exact rfl; exact rfl; (first | exact one_val rfl rfl | exact one_ints | exact one_intss | exact one_own rfl True.intro); (first | exact one_val rfl rfl | exact one_ints | exact one_intss | exact one_own rfl True.intro))
  | (apply w_bs0; iterate 1 exact rfl)
  | (apply w_appn; exact rfl; exact rfl; (first | exact .ints _ | exact .sli rfl | exact .orow rfl | exact .nil | exact .osub rfl (by simp; omega)); exact rfl)
  | (apply w_app; exact rfl; exact rfl; exact rfl; exact rfl; (first | exact .ints _ | exact .sli rfl | exact .orow rfl | exact .nil | exact .osub rfl (by simp; omega)); rotate_left 1; simp only [Env.mp, List.map_cons, List.map_nil, List.set_cons_zero, List.set_cons_succ, AV.kill, AV.kill1, AO.kill, AV.noRow, AV.noRow1, AO.via, reduceIte, Nat.reduceEqDiff, Nat.reduceLT, Env.up, Nat.zero_ne_one, Nat.one_ne_zero, Nat.reduceAdd, List.cons_append, List.nil_append]; rotate_left 1)
  | (apply w_alst; iterate 2 exact rfl)
  | (apply w_alone; iterate 3 exact rfl)
  | (apply w_mki; exact rfl; exact rfl; rotate_left 3; exact rfl; rotate_left 1)
  | (apply w_mkr; exact rfl; exact rfl; rotate_left 3; exact rfl; rotate_left 1)
  | (apply w_strow; exact rfl; exact rfl; rotate_left 1; exact rfl; exact rfl; exact rfl; exact rfl; simp only [Env.mp, List.map_cons, List.map_nil, List.set_cons_zero, List.set_cons_succ, AV.kill, AV.kill1, AO.kill, AV.noRow, AV.noRow1, AO.via, reduceIte, Nat.reduceEqDiff, Nat.reduceLT, Env.up, Nat.zero_ne_one, Nat.one_ne_zero, Nat.reduceAdd, List.cons_append, List.nil_append]; rotate_left 1)
  | (apply w_sti; exact rfl; exact rfl; rotate_left 1; exact rfl; rotate_left 2)
  | (apply w_stst; iterate 5 exact rfl)
  | (apply w_stbv; iterate 6 exact rfl)
  | (apply w_stbo; exact rfl; exact rfl; exact rfl; exact rfl; exact rfl; exact True.intro)
  | ((apply AOps.splitB; exact rfl; exact rfl) <;> intro h)
  | apply AllOf.nil
  | (apply AllOf.cons; exact rfl)
  | (apply AAny.take; exact rfl; exact rfl; kernel_rfl; kernel_rfl)
  | (apply AAny.all; exact rfl)
  | (apply AAny.done; exact rfl)
  | (apply inI_of <;> omega)
  | omega
  | (simp <;> omega))
  · refine .int Try.results7 rfl ?_
    have e : szSS xss left = -1 ∨ 0 ≤ szSS xss left := szSS_cases xss left
    omega
  · exact .int Try.results7 rfl rfl

/-- A new polynomial. -/
def IsPol (xss : List (List Int)) (r : AV) (os : List AO) : Prop := r = .agg [.own 0] ∧ os = [.sls 52 2 xss]

theorem toPoly_c (xss : List (List Int)) (hb : xss.length ≤ 1048576) (hr : ∀ xs ∈ xss, xs.length ≤ 1048576) : AFn Try.prog 9 [.agg [.intss xss]] (IsPol xss) := by
  (refine AFn.start Try.func9 Try.ntmps9 rfl (by kernel_rfl) fun hk => ?_; simp only [Env.start, enumF, List.length_cons, List.length_nil, Nat.reduceAdd, Nat.reduceSub, List.cons_append, List.nil_append])
  repeat' (first
  | (apply AOps.nil; try simp only [List.nil_append, List.cons_append, List.set_cons_zero, List.set_cons_succ, List.length_cons, List.length_nil, Nat.reduceAdd, AV.sh, AV.sh1, AV.sh0, AO.sh, List.map_cons, List.map_nil, Nat.zero_add, Nat.add_zero, setAll])
  | ((apply AOps.splitP; exact rfl; exact rfl) <;> intro h)
  | ((apply AOps.splitN; exact rfl; exact rfl) <;> intro h)
  | (apply w_move; exact rfl; exact rfl)
  | (apply w_assign; exact rfl; exact rfl)
  | apply AWp.seq
  | apply AWp.region
  | ((apply AWp.condP; exact rfl) <;> intro h)
  | ((apply AWp.condN; exact rfl) <;> intro h)
  | (apply AWp.condT; exact rfl)
  | (apply AWp.condF; exact rfl)
  | ((apply AWp.condB; exact rfl) <;> intro h)
  | apply AWp.block
  | apply AWp.ret
  | apply AWp.exit
  | apply AWp.skip
  | (apply AWp.regionQ; kernel_rfl; kernel_rfl)
  | (apply if_pos'; exact rfl)
  | (apply if_neg'; decide)
  | (apply w_skip; exact rfl)
  | (apply w_pickT; exact rfl; exact rfl; exact rfl)
  | (apply w_pickF; exact rfl; exact rfl; exact rfl)
  | (apply w_len; exact rfl; exact rfl; first | exact .ints _ | exact .intss _ | exact .sli rfl | exact .sls rfl | exact .slr rfl | exact .orow rfl | exact .nil)
  | (apply w_callm (toInt64SS_c _ hb hr); (focus ((repeat (first | exact im_nil | refine im_cons rfl (.val _) ?_ | refine im_cons rfl (.ints _) ?_ | refine im_cons rfl (.intss _) ?_ | refine im_cons rfl (.sli rfl) ?_ | refine im_cons rfl (.sls rfl) ?_ | refine im_cons rfl (.orow rfl) ?_ | refine im_cons rfl (.osub rfl (by simp; omega)) ?_ | refine im_cons rfl (.nil) ?_ | refine im_cons rfl (.nils) ?_ | refine im_cons rfl (im_agg2 (.val _) (.ints _)) ?_ | refine im_cons rfl (im_agg2 (.val _) (.sli rfl)) ?_ | refine im_cons rfl (im_agg2 (.val _) (.nil)) ?_ | refine im_cons rfl (im_agg2 (.ints _) (.intss _)) ?_ | refine im_cons rfl (im_agg2 (.ints _) (.sls rfl)) ?_ | refine im_cons rfl (im_agg2 (.sli rfl) (.intss _)) ?_ | refine im_cons rfl (im_agg2 (.sli rfl) (.sls rfl)) ?_ | refine im_cons rfl (im_agg1 (.ints _)) ?_ | refine im_cons rfl (im_agg1 (.sli rfl)) ?_ | refine im_cons rfl (im_agg1 (.intss _)) ?_ | refine im_cons rfl (im_agg1 (.sls rfl)) ?_ | refine im_cons rfl (im_agg1 (.nil)) ?_ | refine im_cons rfl (im_agg1 (.nils)) ?_)); done)); rintro r os0 ⟨rfl, rfl⟩; try simp only [List.nil_append, List.cons_append, List.set_cons_zero, List.set_cons_succ, List.length_cons, List.length_nil, Nat.reduceAdd, AV.sh, AV.sh1, AV.sh0, AO.sh, List.map_cons, List.map_nil, Nat.zero_add, Nat.add_zero, setAll])
  | ((first | apply w_lss | apply w_leq | apply w_gtr | apply w_geq | apply w_eql | apply w_neq | apply w_add | apply w_sub | apply w_mul | apply w_idx | apply w_ld | apply w_fld | apply w_fa | apply w_extv | apply w_min | apply w_max | apply w_slhi | apply w_sllo | apply w_bs2); iterate 3 exact rfl)
  | ((first | apply w_eqlb | apply w_neqb | apply w_idxs | apply w_lds | apply w_ext); iterate 3 exact rfl)
  | (apply w_rem; exact rfl; exact rfl; exact rfl; (focus (omega; done)); (focus (omega; done)))
  | (apply w_quo; exact rfl; exact rfl; exact rfl; (focus (omega; done)); (focus (omega; done)))
  | (apply w_remT; exact rfl; exact rfl; exact rfl)
  | (apply w_quoT; exact rfl; exact rfl; exact rfl)
  | ((first | apply w_not | apply w_neg | apply w_conv | apply w_build0 | apply w_bs1 | apply w_boxa); iterate 2 exact rfl)
  | (apply w_idxo; exact rfl; exact rfl; (first | exact .sli rfl | exact .sls rfl | exact .slr rfl); exact rfl)
  | ((first | apply w_idxr | apply w_ldr); iterate 4 exact rfl)
  | (apply w_ldo; iterate 4 exact rfl)
  | (apply w_ldls; iterate 4 exact rfl)
  | (apply w_ldrp; iterate 4 exact rfl)
  | (apply w_ldb; iterate 5 exact rfl)
  | (apply w_ldst; iterate 5 exact rfl)
  | ((first | apply w_sllh | apply w_stbi); iterate 4 exact rfl)
  | ((first | apply w_oslo | apply w_oshi | apply w_stbii); iterate 4 exact rfl)
  | (apply w_copy; exact rfl; (first | exact .own rfl rfl rfl | exact .osub); exact rfl; rotate_left 1; exact rfl; (first | exact .ints _ | exact .sli rfl | exact .orow rfl | exact .nil | exact .osub rfl (by simp; omega)))
  | (apply w_build1; exact rfl; exact rfl; (first | exact one_val rfl rfl | exact one_ints | exact one_intss | exact one_own rfl True.intro))
  | (apply w_build2; exact rfl; exact rfl; exact rfl; (first | exact one_val rfl rfl | exact one_ints | exact one_intss | exact one_own rfl True.intro); (first | exact one_val rfl rfl | exact one_ints | exact one_intss | exact one_own rfl True.intro))
  | (apply w_bs0; iterate 1 exact rfl)
  | (apply w_appn; exact rfl; exact rfl; (first | exact .ints _ | exact .sli rfl | exact .orow rfl | exact .nil | exact .osub rfl (by simp; omega)); exact rfl)
  | (apply w_app; exact rfl; exact rfl; exact rfl; exact rfl; (first | exact .ints _ | exact .sli rfl | exact .orow rfl | exact .nil | exact .osub rfl (by simp; omega)); rotate_left 1; simp only [Env.mp, List.map_cons, List.map_nil, List.set_cons_zero, List.set_cons_succ, AV.kill, AV.kill1, AO.kill, AV.noRow, AV.noRow1, AO.via, reduceIte, Nat.reduceEqDiff, Nat.reduceLT, Env.up, Nat.zero_ne_one, Nat.one_ne_zero, Nat.reduceAdd, List.cons_append, List.nil_append]; rotate_left 1)
  | (apply w_alst; iterate 2 exact rfl)
  | (apply w_alone; iterate 3 exact rfl)
  | (apply w_mki; exact rfl; exact rfl; rotate_left 3; exact rfl; rotate_left 1)
  | (apply w_mkr; exact rfl; exact rfl; rotate_left 3; exact rfl; rotate_left 1)
  | (apply w_strow; exact rfl; exact rfl; rotate_left 1; exact rfl; exact rfl; exact rfl; exact rfl; simp only [Env.mp, List.map_cons, List.map_nil, List.set_cons_zero, List.set_cons_succ, AV.kill, AV.kill1, AO.kill, AV.noRow, AV.noRow1, AO.via, reduceIte, Nat.reduceEqDiff, Nat.reduceLT, Env.up, Nat.zero_ne_one, Nat.one_ne_zero, Nat.reduceAdd, List.cons_append, List.nil_append]; rotate_left 1)
  | (apply w_sti; exact rfl; exact rfl; rotate_left 1; exact rfl; rotate_left 2)
  | (apply w_stst; iterate 5 exact rfl)
  | (apply w_stbv; iterate 6 exact rfl)
  | (apply w_stbo; exact rfl; exact rfl; exact rfl; exact rfl; exact rfl; exact True.intro)
  | ((apply AOps.splitB; exact rfl; exact rfl) <;> intro h)
  | apply AllOf.nil
  | (apply AllOf.cons; exact rfl)
  | (apply AAny.take; exact rfl; exact rfl; kernel_rfl; kernel_rfl)
  | (apply AAny.all; exact rfl)
  | (apply AAny.done; exact rfl)
  | (apply inI_of <;> omega)
  | omega
  | (simp <;> omega))
  exact ⟨_, _, _, .c1 Try.results9 rfl rfl rfl, .agg1 (.sls rfl), rfl, rfl⟩

theorem eqPoly_c (xss yss : List (List Int)) : AFnV Try.prog 11 [.agg [.intss xss], .agg [.intss yss]] (.bool (decide (xss = yss))) := by
  (refine AFnV.start Try.func11 Try.ntmps11 rfl (by kernel_rfl) fun hk => ?_; simp only [Env.start, enumF, List.length_cons, List.length_nil, Nat.reduceAdd, Nat.reduceSub, List.cons_append, List.nil_append])
  repeat' (first
  | (apply AOps.nil; try simp only [List.nil_append, List.cons_append, List.set_cons_zero, List.set_cons_succ, List.length_cons, List.length_nil, Nat.reduceAdd, AV.sh, AV.sh1, AV.sh0, AO.sh, List.map_cons, List.map_nil, Nat.zero_add, Nat.add_zero, setAll])
  | ((apply AOps.splitP; exact rfl; exact rfl) <;> intro h)
  | ((apply AOps.splitN; exact rfl; exact rfl) <;> intro h)
  | (apply w_move; exact rfl; exact rfl)
  | (apply w_assign; exact rfl; exact rfl)
  | apply AWp.seq
  | apply AWp.region
  | ((apply AWp.condP; exact rfl) <;> intro h)
  | ((apply AWp.condN; exact rfl) <;> intro h)
  | (apply AWp.condT; exact rfl)
  | (apply AWp.condF; exact rfl)
  | ((apply AWp.condB; exact rfl) <;> intro h)
  | apply AWp.block
  | apply AWp.ret
  | apply AWp.exit
  | apply AWp.skip
  | (apply AWp.regionQ; kernel_rfl; kernel_rfl)
  | (apply if_pos'; exact rfl)
  | (apply if_neg'; decide)
  | (apply w_skip; exact rfl)
  | (apply w_pickT; exact rfl; exact rfl; exact rfl)
  | (apply w_pickF; exact rfl; exact rfl; exact rfl)
  | (apply w_len; exact rfl; exact rfl; first | exact .ints _ | exact .intss _ | exact .sli rfl | exact .sls rfl | exact .slr rfl | exact .orow rfl | exact .nil)
  | (apply w_call (eqInt64SS_c _ _); exact rfl; exact rfl; focus ((repeat (first | exact im_nil | refine im_cons rfl (.val _) ?_ | refine im_cons rfl (.ints _) ?_ | refine im_cons rfl (.intss _) ?_ | refine im_cons rfl (.sli rfl) ?_ | refine im_cons rfl (.sls rfl) ?_ | refine im_cons rfl (.orow rfl) ?_ | refine im_cons rfl (.osub rfl (by simp; omega)) ?_ | refine im_cons rfl (.nil) ?_ | refine im_cons rfl (.nils) ?_ | refine im_cons rfl (im_agg2 (.val _) (.ints _)) ?_ | refine im_cons rfl (im_agg2 (.val _) (.sli rfl)) ?_ | refine im_cons rfl (im_agg2 (.val _) (.nil)) ?_ | refine im_cons rfl (im_agg2 (.ints _) (.intss _)) ?_ | refine im_cons rfl (im_agg2 (.ints _) (.sls rfl)) ?_ | refine im_cons rfl (im_agg2 (.sli rfl) (.intss _)) ?_ | refine im_cons rfl (im_agg2 (.sli rfl) (.sls rfl)) ?_ | refine im_cons rfl (im_agg1 (.ints _)) ?_ | refine im_cons rfl (im_agg1 (.sli rfl)) ?_ | refine im_cons rfl (im_agg1 (.intss _)) ?_ | refine im_cons rfl (im_agg1 (.sls rfl)) ?_ | refine im_cons rfl (im_agg1 (.nil)) ?_ | refine im_cons rfl (im_agg1 (.nils)) ?_)); done))
  | ((first | apply w_lss | apply w_leq | apply w_gtr | apply w_geq | apply w_eql | apply w_neq | apply w_add | apply w_sub | apply w_mul | apply w_idx | apply w_ld | apply w_fld | apply w_fa | apply w_extv | apply w_min | apply w_max | apply w_slhi | apply w_sllo | apply w_bs2); iterate 3 exact rfl)
  | ((first | apply w_eqlb | apply w_neqb | apply w_idxs | apply w_lds | apply w_ext); iterate 3 exact rfl)
  | (apply w_rem; exact rfl; exact rfl; exact rfl; (focus (omega; done)); (focus (omega; done)))
  | (apply w_quo; exact rfl; exact rfl; exact rfl; (focus (omega; done)); (focus (omega; done)))
  | (apply w_remT; exact rfl; exact rfl; exact rfl)
  | (apply w_quoT; exact rfl; exact rfl; exact rfl)
  | ((first | apply w_not | apply w_neg | apply w_conv | apply w_build0 | apply w_bs1 | apply w_boxa); iterate 2 exact rfl)
  | (apply w_idxo; exact rfl; exact rfl; (first | exact .sli rfl | exact .sls rfl | exact .slr rfl); exact rfl)
  | ((first | apply w_idxr | apply w_ldr); iterate 4 exact rfl)
  | (apply w_ldo; iterate 4 exact rfl)
  | (apply w_ldls; iterate 4 exact rfl)
  | (apply w_ldrp; iterate 4 exact rfl)
  | (apply w_ldb; iterate 5 exact rfl)
  | (apply w_ldst; iterate 5 exact rfl)
  | ((first | apply w_sllh | apply w_stbi); iterate 4 exact rfl)
  | ((first | apply w_oslo | apply w_oshi | apply w_stbii); iterate 4 exact rfl)
  | (apply w_copy; exact rfl; (first | exact .own rfl rfl rfl | exact .osub); exact rfl; rotate_left 1; exact rfl; (first | exact .ints _ | exact .sli rfl | exact .orow rfl | exact .nil | exact .osub rfl (by simp; omega)))
  | (apply w_build1; exact rfl; exact rfl; (first | exact one_val rfl rfl | exact one_ints | exact one_intss | exact one_own rfl True.intro))
  | (apply w_build2; exact rfl; exact rfl; exact rfl; (first | exact one_val rfl rfl | exact one_ints | exact one_intss | exact one_own rfl True.intro); (first | exact one_val rfl rfl | exact one_ints | exact one_intss | exact one_own rfl True.intro))
  | (apply w_bs0; iterate 1 exact rfl)
  | (apply w_appn; exact rfl; exact rfl; (first | exact .ints _ | exact .sli rfl | exact .orow rfl | exact .nil | exact .osub rfl (by simp; omega)); exact rfl)
  | (apply w_app; exact rfl; exact rfl; exact rfl; exact rfl; (first | exact .ints _ | exact .sli rfl | exact .orow rfl | exact .nil | exact .osub rfl (by simp; omega)); rotate_left 1; simp only [Env.mp, List.map_cons, List.map_nil, List.set_cons_zero, List.set_cons_succ, AV.kill, AV.kill1, AO.kill, AV.noRow, AV.noRow1, AO.via, reduceIte, Nat.reduceEqDiff, Nat.reduceLT, Env.up, Nat.zero_ne_one, Nat.one_ne_zero, Nat.reduceAdd, List.cons_append, List.nil_append]; rotate_left 1)
  | (apply w_alst; iterate 2 exact rfl)
  | (apply w_alone; iterate 3 exact rfl)
  | (apply w_mki; exact rfl; exact rfl; rotate_left 3; exact rfl; rotate_left 1)
  | (apply w_mkr; exact rfl; exact rfl; rotate_left 3; exact rfl; rotate_left 1)
  | (apply w_strow; exact rfl; exact rfl; rotate_left 1; exact rfl; exact rfl; exact rfl; exact rfl; simp only [Env.mp, List.map_cons, List.map_nil, List.set_cons_zero, List.set_cons_succ, AV.kill, AV.kill1, AO.kill, AV.noRow, AV.noRow1, AO.via, reduceIte, Nat.reduceEqDiff, Nat.reduceLT, Env.up, Nat.zero_ne_one, Nat.one_ne_zero, Nat.reduceAdd, List.cons_append, List.nil_append]; rotate_left 1)
  | (apply w_sti; exact rfl; exact rfl; rotate_left 1; exact rfl; rotate_left 2)
  | (apply w_stst; iterate 5 exact rfl)
  | (apply w_stbv; iterate 6 exact rfl)
  | (apply w_stbo; exact rfl; exact rfl; exact rfl; exact rfl; exact rfl; exact True.intro)
  | ((apply AOps.splitB; exact rfl; exact rfl) <;> intro h)
  | apply AllOf.nil
  | (apply AllOf.cons; exact rfl)
  | (apply AAny.take; exact rfl; exact rfl; kernel_rfl; kernel_rfl)
  | (apply AAny.all; exact rfl)
  | (apply AAny.done; exact rfl)
  | (apply inI_of <;> omega)
  | omega
  | (simp <;> omega))
  · exact .bool Try.results11 rfl (by simp_all)
  · exact .bool Try.results11 rfl (by simp_all)
theorem eqPoly_t (xss : List (List Int)) : AFnV Try.prog 11 [.agg [.intss xss], .agg [.intss xss]] (.bool true) := by
  have := eqPoly_c xss xss
  simpa using this

/-- The order of terms. -/
def Bef (x y : List Int) : Prop := geti x 0 + geti x 1 < geti y 0 + geti y 1 ∨ (geti x 0 + geti x 1 = geti y 0 + geti y 1 ∧ geti x 0 < geti y 0)

theorem l17Before_c (i j a b : Int) (hi : 0 ≤ i ∧ i ≤ 60) (hj : 0 ≤ j ∧ j ≤ 60) (ha : 0 ≤ a ∧ a ≤ 60) (hb : 0 ≤ b ∧ b ≤ 60) :
    AFnV Try.prog 44 [.i i, .i j, .i a, .i b] (.bool (decide (i + j < a + b ∨ (i + j = a + b ∧ i < a)))) := by
  (refine AFnV.start Try.func44 Try.ntmps44 rfl (by kernel_rfl) fun hk => ?_; simp only [Env.start, enumF, List.length_cons, List.length_nil, Nat.reduceAdd, Nat.reduceSub, List.cons_append, List.nil_append])
  repeat' (first
  | (apply AOps.nil; try simp only [List.nil_append, List.cons_append, List.set_cons_zero, List.set_cons_succ, List.length_cons, List.length_nil, Nat.reduceAdd, AV.sh, AV.sh1, AV.sh0, AO.sh, List.map_cons, List.map_nil, Nat.zero_add, Nat.add_zero, setAll])
  | ((apply AOps.splitP; exact rfl; exact rfl) <;> intro h)
  | ((apply AOps.splitN; exact rfl; exact rfl) <;> intro h)
  | (apply w_move; exact rfl; exact rfl)
  | (apply w_assign; exact rfl; exact rfl)
  | apply AWp.seq
  | apply AWp.region
  | ((apply AWp.condP; exact rfl) <;> intro h)
  | ((apply AWp.condN; exact rfl) <;> intro h)
  | (apply AWp.condT; exact rfl)
  | (apply AWp.condF; exact rfl)
  | ((apply AWp.condB; exact rfl) <;> intro h)
  | apply AWp.block
  | apply AWp.ret
  | apply AWp.exit
  | apply AWp.skip
  | (apply AWp.regionQ; kernel_rfl; kernel_rfl)
  | (apply if_pos'; exact rfl)
  | (apply if_neg'; decide)
  | (apply w_skip; exact rfl)
  | (apply w_pickT; exact rfl; exact rfl; exact rfl)
  | (apply w_pickF; exact rfl; exact rfl; exact rfl)
  | (apply w_len; exact rfl; exact rfl; first | exact .ints _ | exact .intss _ | exact .sli rfl | exact .sls rfl | exact .slr rfl | exact .orow rfl | exact .nil)
  | ((first | apply w_lss | apply w_leq | apply w_gtr | apply w_geq | apply w_eql | apply w_neq | apply w_add | apply w_sub | apply w_mul | apply w_idx | apply w_ld | apply w_fld | apply w_fa | apply w_extv | apply w_min | apply w_max | apply w_slhi | apply w_sllo | apply w_bs2); iterate 3 exact rfl)
  | ((first | apply w_eqlb | apply w_neqb | apply w_idxs | apply w_lds | apply w_ext); iterate 3 exact rfl)
  | (apply w_rem; exact rfl; exact rfl; exact rfl; (focus (omega; done)); (focus (omega; done)))
  | (apply w_quo; exact rfl; exact rfl; exact rfl; (focus (omega; done)); (focus (omega; done)))
  | (apply w_remT; exact rfl; exact rfl; exact rfl)
  | (apply w_quoT; exact rfl; exact rfl; exact rfl)
  | ((first | apply w_not | apply w_neg | apply w_conv | apply w_build0 | apply w_bs1 | apply w_boxa); iterate 2 exact rfl)
  | (apply w_idxo; exact rfl; exact rfl; (first | exact .sli rfl | exact .sls rfl | exact .slr rfl); exact rfl)
  | ((first | apply w_idxr | apply w_ldr); iterate 4 exact rfl)
  | (apply w_ldo; iterate 4 exact rfl)
  | (apply w_ldls; iterate 4 exact rfl)
  | (apply w_ldrp; iterate 4 exact rfl)
  | (apply w_ldb; iterate 5 exact rfl)
  | (apply w_ldst; iterate 5 exact rfl)
  | ((first | apply w_sllh | apply w_stbi); iterate 4 exact rfl)
  | ((first | apply w_oslo | apply w_oshi | apply w_stbii); iterate 4 exact rfl)
  | (apply w_copy; exact rfl; (first | exact .own rfl rfl rfl | exact .osub); exact rfl; rotate_left 1; exact rfl; (first | exact .ints _ | exact .sli rfl | exact .orow rfl | exact .nil | exact .osub rfl (by simp; omega)))
  | (apply w_build1; exact rfl; exact rfl; (first | exact one_val rfl rfl | exact one_ints | exact one_intss | exact one_own rfl True.intro))
  | (apply w_build2; exact rfl; exact rfl; exact rfl; (first | exact one_val rfl rfl | exact one_ints | exact one_intss | exact one_own rfl True.intro); (first | exact one_val rfl rfl | exact one_ints | exact one_intss | exact one_own rfl True.intro))
  | (apply w_bs0; iterate 1 exact rfl)
  | (apply w_appn; exact rfl; exact rfl; (first | exact .ints _ | exact .sli rfl | exact .orow rfl | exact .nil | exact .osub rfl (by simp; omega)); exact rfl)
  | (apply w_app; exact rfl; exact rfl; exact rfl; exact rfl; (first | exact .ints _ | exact .sli rfl | exact .orow rfl | exact .nil | exact .osub rfl (by simp; omega)); rotate_left 1; simp only [Env.mp, List.map_cons, List.map_nil, List.set_cons_zero, List.set_cons_succ, AV.kill, AV.kill1, AO.kill, AV.noRow, AV.noRow1, AO.via, reduceIte, Nat.reduceEqDiff, Nat.reduceLT, Env.up, Nat.zero_ne_one, Nat.one_ne_zero, Nat.reduceAdd, List.cons_append, List.nil_append]; rotate_left 1)
  | (apply w_alst; iterate 2 exact rfl)
  | (apply w_alone; iterate 3 exact rfl)
  | (apply w_mki; exact rfl; exact rfl; rotate_left 3; exact rfl; rotate_left 1)
  | (apply w_mkr; exact rfl; exact rfl; rotate_left 3; exact rfl; rotate_left 1)
  | (apply w_strow; exact rfl; exact rfl; rotate_left 1; exact rfl; exact rfl; exact rfl; exact rfl; simp only [Env.mp, List.map_cons, List.map_nil, List.set_cons_zero, List.set_cons_succ, AV.kill, AV.kill1, AO.kill, AV.noRow, AV.noRow1, AO.via, reduceIte, Nat.reduceEqDiff, Nat.reduceLT, Env.up, Nat.zero_ne_one, Nat.one_ne_zero, Nat.reduceAdd, List.cons_append, List.nil_append]; rotate_left 1)
  | (apply w_sti; exact rfl; exact rfl; rotate_left 1; exact rfl; rotate_left 2)
  | (apply w_stst; iterate 5 exact rfl)
  | (apply w_stbv; iterate 6 exact rfl)
  | (apply w_stbo; exact rfl; exact rfl; exact rfl; exact rfl; exact rfl; exact True.intro)
  | ((apply AOps.splitB; exact rfl; exact rfl) <;> intro h)
  | apply AllOf.nil
  | (apply AllOf.cons; exact rfl)
  | (apply AAny.take; exact rfl; exact rfl; kernel_rfl; kernel_rfl)
  | (apply AAny.all; exact rfl)
  | (apply AAny.done; exact rfl)
  | (apply inI_of <;> omega)
  | omega
  | (simp <;> omega))
  all_goals refine .bool Try.results44 rfl ?_
  all_goals rw [Bool.eq_iff_iff]
  all_goals simp
  all_goals omega

def cmpI (a b : Int) : Int := if a < b then -1 else if b < a then 1 else 0

theorem compared_c (a b : Int) : AFnV Try.prog 53 [.i a, .i b] (.int .i64 (cmpI a b)) := by
  (refine AFnV.start Try.func53 Try.ntmps53 rfl (by kernel_rfl) fun hk => ?_; simp only [Env.start, enumF, List.length_cons, List.length_nil, Nat.reduceAdd, Nat.reduceSub, List.cons_append, List.nil_append])
  repeat' (first
  | (apply AOps.nil; try simp only [List.nil_append, List.cons_append, List.set_cons_zero, List.set_cons_succ, List.length_cons, List.length_nil, Nat.reduceAdd, AV.sh, AV.sh1, AV.sh0, AO.sh, List.map_cons, List.map_nil, Nat.zero_add, Nat.add_zero, setAll])
  | ((apply AOps.splitP; exact rfl; exact rfl) <;> intro h)
  | ((apply AOps.splitN; exact rfl; exact rfl) <;> intro h)
  | (apply w_move; exact rfl; exact rfl)
  | (apply w_assign; exact rfl; exact rfl)
  | apply AWp.seq
  | apply AWp.region
  | ((apply AWp.condP; exact rfl) <;> intro h)
  | ((apply AWp.condN; exact rfl) <;> intro h)
  | (apply AWp.condT; exact rfl)
  | (apply AWp.condF; exact rfl)
  | ((apply AWp.condB; exact rfl) <;> intro h)
  | apply AWp.block
  | apply AWp.ret
  | apply AWp.exit
  | apply AWp.skip
  | (apply AWp.regionQ; kernel_rfl; kernel_rfl)
  | (apply if_pos'; exact rfl)
  | (apply if_neg'; decide)
  | (apply w_skip; exact rfl)
  | (apply w_pickT; exact rfl; exact rfl; exact rfl)
  | (apply w_pickF; exact rfl; exact rfl; exact rfl)
  | (apply w_len; exact rfl; exact rfl; first | exact .ints _ | exact .intss _ | exact .sli rfl | exact .sls rfl | exact .slr rfl | exact .orow rfl | exact .nil)
  | ((first | apply w_lss | apply w_leq | apply w_gtr | apply w_geq | apply w_eql | apply w_neq | apply w_add | apply w_sub | apply w_mul | apply w_idx | apply w_ld | apply w_fld | apply w_fa | apply w_extv | apply w_min | apply w_max | apply w_slhi | apply w_sllo | apply w_bs2); iterate 3 exact rfl)
  | ((first | apply w_eqlb | apply w_neqb | apply w_idxs | apply w_lds | apply w_ext); iterate 3 exact rfl)
  | (apply w_rem; exact rfl; exact rfl; exact rfl; (focus (omega; done)); (focus (omega; done)))
  | (apply w_quo; exact rfl; exact rfl; exact rfl; (focus (omega; done)); (focus (omega; done)))
  | (apply w_remT; exact rfl; exact rfl; exact rfl)
  | (apply w_quoT; exact rfl; exact rfl; exact rfl)
  | ((first | apply w_not | apply w_neg | apply w_conv | apply w_build0 | apply w_bs1 | apply w_boxa); iterate 2 exact rfl)
  | (apply w_idxo; exact rfl; exact rfl; (first | exact .sli rfl | exact .sls rfl | exact .slr rfl); exact rfl)
  | ((first | apply w_idxr | apply w_ldr); iterate 4 exact rfl)
  | (apply w_ldo; iterate 4 exact rfl)
  | (apply w_ldls; iterate 4 exact rfl)
  | (apply w_ldrp; iterate 4 exact rfl)
  | (apply w_ldb; iterate 5 exact rfl)
  | (apply w_ldst; iterate 5 exact rfl)
  | ((first | apply w_sllh | apply w_stbi); iterate 4 exact rfl)
  | ((first | apply w_oslo | apply w_oshi | apply w_stbii); iterate 4 exact rfl)
  | (apply w_copy; exact rfl; (first | exact .own rfl rfl rfl | exact .osub); exact rfl; rotate_left 1; exact rfl; (first | exact .ints _ | exact .sli rfl | exact .orow rfl | exact .nil | exact .osub rfl (by simp; omega)))
  | (apply w_build1; exact rfl; exact rfl; (first | exact one_val rfl rfl | exact one_ints | exact one_intss | exact one_own rfl True.intro))
  | (apply w_build2; exact rfl; exact rfl; exact rfl; (first | exact one_val rfl rfl | exact one_ints | exact one_intss | exact one_own rfl True.intro); (first | exact one_val rfl rfl | exact one_ints | exact one_intss | exact one_own rfl True.intro))
  | (apply w_bs0; iterate 1 exact rfl)
  | (apply w_appn; exact rfl; exact rfl; (first | exact .ints _ | exact .sli rfl | exact .orow rfl | exact .nil | exact .osub rfl (by simp; omega)); exact rfl)
  | (apply w_app; exact rfl; exact rfl; exact rfl; exact rfl; (first | exact .ints _ | exact .sli rfl | exact .orow rfl | exact .nil | exact .osub rfl (by simp; omega)); rotate_left 1; simp only [Env.mp, List.map_cons, List.map_nil, List.set_cons_zero, List.set_cons_succ, AV.kill, AV.kill1, AO.kill, AV.noRow, AV.noRow1, AO.via, reduceIte, Nat.reduceEqDiff, Nat.reduceLT, Env.up, Nat.zero_ne_one, Nat.one_ne_zero, Nat.reduceAdd, List.cons_append, List.nil_append]; rotate_left 1)
  | (apply w_alst; iterate 2 exact rfl)
  | (apply w_alone; iterate 3 exact rfl)
  | (apply w_mki; exact rfl; exact rfl; rotate_left 3; exact rfl; rotate_left 1)
  | (apply w_mkr; exact rfl; exact rfl; rotate_left 3; exact rfl; rotate_left 1)
  | (apply w_strow; exact rfl; exact rfl; rotate_left 1; exact rfl; exact rfl; exact rfl; exact rfl; simp only [Env.mp, List.map_cons, List.map_nil, List.set_cons_zero, List.set_cons_succ, AV.kill, AV.kill1, AO.kill, AV.noRow, AV.noRow1, AO.via, reduceIte, Nat.reduceEqDiff, Nat.reduceLT, Env.up, Nat.zero_ne_one, Nat.one_ne_zero, Nat.reduceAdd, List.cons_append, List.nil_append]; rotate_left 1)
  | (apply w_sti; exact rfl; exact rfl; rotate_left 1; exact rfl; rotate_left 2)
  | (apply w_stst; iterate 5 exact rfl)
  | (apply w_stbv; iterate 6 exact rfl)
  | (apply w_stbo; exact rfl; exact rfl; exact rfl; exact rfl; exact rfl; exact True.intro)
  | ((apply AOps.splitB; exact rfl; exact rfl) <;> intro h)
  | apply AllOf.nil
  | (apply AllOf.cons; exact rfl)
  | (apply AAny.take; exact rfl; exact rfl; kernel_rfl; kernel_rfl)
  | (apply AAny.all; exact rfl)
  | (apply AAny.done; exact rfl)
  | (apply inI_of <;> omega)
  | omega
  | (simp <;> omega))
  all_goals exact .int Try.results53 rfl (by unfold cmpI; split <;> (try split) <;> omega)

def cmpT (x y : List Int) : Int := if cmpI (geti x 0 + geti x 1) (geti y 0 + geti y 1) ≠ 0 then cmpI (geti x 0 + geti x 1) (geti y 0 + geti y 1) else cmpI (geti x 0) (geti y 0)
theorem cmpI_in (a b : Int) : -1 ≤ cmpI a b ∧ cmpI a b ≤ 1 := by unfold cmpI; split <;> (try split) <;> omega
theorem cmpT_bef (x y : List Int) : 0 ≤ cmpT x y ↔ ¬ Bef x y := by
  unfold cmpT Bef cmpI
  (repeat' split) <;> omega

theorem compareTerms_c (x y : List Int) (hx : x.length = 3) (hy : y.length = 3) (hx0 : 0 ≤ geti x 0 ∧ geti x 0 ≤ 60) (hx1 : 0 ≤ geti x 1 ∧ geti x 1 ≤ 60) (hy0 : 0 ≤ geti y 0 ∧ geti y 0 ≤ 60) (hy1 : 0 ≤ geti y 1 ∧ geti y 1 ≤ 60) :
    AFnV Try.prog 47 [.ints x, .ints y] (.int .i64 (cmpT x y)) := by
  have e1 := cmpI_in (geti x 0 + geti x 1) (geti y 0 + geti y 1)
  have e2 := cmpI_in (geti x 0) (geti y 0)
  (refine AFnV.start Try.func47 Try.ntmps47 rfl (by kernel_rfl) fun hk => ?_; simp only [Env.start, enumF, List.length_cons, List.length_nil, Nat.reduceAdd, Nat.reduceSub, List.cons_append, List.nil_append])
  repeat' (first
  | (apply AOps.nil; try simp only [List.nil_append, List.cons_append, List.set_cons_zero, List.set_cons_succ, List.length_cons, List.length_nil, Nat.reduceAdd, AV.sh, AV.sh1, AV.sh0, AO.sh, List.map_cons, List.map_nil, Nat.zero_add, Nat.add_zero, setAll])
  | ((apply AOps.splitP; exact rfl; exact rfl) <;> intro h)
  | ((apply AOps.splitN; exact rfl; exact rfl) <;> intro h)
  | (apply w_move; exact rfl; exact rfl)
  | (apply w_assign; exact rfl; exact rfl)
  | apply AWp.seq
  | apply AWp.region
  | ((apply AWp.condP; exact rfl) <;> intro h)
  | ((apply AWp.condN; exact rfl) <;> intro h)
  | (apply AWp.condT; exact rfl)
  | (apply AWp.condF; exact rfl)
  | ((apply AWp.condB; exact rfl) <;> intro h)
  | apply AWp.block
  | apply AWp.ret
  | apply AWp.exit
  | apply AWp.skip
  | (apply AWp.regionQ; kernel_rfl; kernel_rfl)
  | (apply if_pos'; exact rfl)
  | (apply if_neg'; decide)
  | (apply w_skip; exact rfl)
  | (apply w_pickT; exact rfl; exact rfl; exact rfl)
  | (apply w_pickF; exact rfl; exact rfl; exact rfl)
  | (apply w_len; exact rfl; exact rfl; first | exact .ints _ | exact .intss _ | exact .sli rfl | exact .sls rfl | exact .slr rfl | exact .orow rfl | exact .nil)
  | (apply w_call (compared_c _ _); exact rfl; exact rfl; focus ((repeat (first | exact im_nil | refine im_cons rfl (.val _) ?_ | refine im_cons rfl (.ints _) ?_ | refine im_cons rfl (.intss _) ?_ | refine im_cons rfl (.sli rfl) ?_ | refine im_cons rfl (.sls rfl) ?_ | refine im_cons rfl (.orow rfl) ?_ | refine im_cons rfl (.osub rfl (by simp; omega)) ?_ | refine im_cons rfl (.nil) ?_ | refine im_cons rfl (.nils) ?_ | refine im_cons rfl (im_agg2 (.val _) (.ints _)) ?_ | refine im_cons rfl (im_agg2 (.val _) (.sli rfl)) ?_ | refine im_cons rfl (im_agg2 (.val _) (.nil)) ?_ | refine im_cons rfl (im_agg2 (.ints _) (.intss _)) ?_ | refine im_cons rfl (im_agg2 (.ints _) (.sls rfl)) ?_ | refine im_cons rfl (im_agg2 (.sli rfl) (.intss _)) ?_ | refine im_cons rfl (im_agg2 (.sli rfl) (.sls rfl)) ?_ | refine im_cons rfl (im_agg1 (.ints _)) ?_ | refine im_cons rfl (im_agg1 (.sli rfl)) ?_ | refine im_cons rfl (im_agg1 (.intss _)) ?_ | refine im_cons rfl (im_agg1 (.sls rfl)) ?_ | refine im_cons rfl (im_agg1 (.nil)) ?_ | refine im_cons rfl (im_agg1 (.nils)) ?_)); done))
  | ((first | apply w_lss | apply w_leq | apply w_gtr | apply w_geq | apply w_eql | apply w_neq | apply w_add | apply w_sub | apply w_mul | apply w_idx | apply w_ld | apply w_fld | apply w_fa | apply w_extv | apply w_min | apply w_max | apply w_slhi | apply w_sllo | apply w_bs2); iterate 3 exact rfl)
  | ((first | apply w_eqlb | apply w_neqb | apply w_idxs | apply w_lds | apply w_ext); iterate 3 exact rfl)
  | (apply w_rem; exact rfl; exact rfl; exact rfl; (focus (omega; done)); (focus (omega; done)))
  | (apply w_quo; exact rfl; exact rfl; exact rfl; (focus (omega; done)); (focus (omega; done)))
  | (apply w_remT; exact rfl; exact rfl; exact rfl)
  | (apply w_quoT; exact rfl; exact rfl; exact rfl)
  | ((first | apply w_not | apply w_neg | apply w_conv | apply w_build0 | apply w_bs1 | apply w_boxa); iterate 2 exact rfl)
  | (apply w_idxo; exact rfl; exact rfl; (first | exact .sli rfl | exact .sls rfl | exact .slr rfl); exact rfl)
  | ((first | apply w_idxr | apply w_ldr); iterate 4 exact rfl)
  | (apply w_ldo; iterate 4 exact rfl)
  | (apply w_ldls; iterate 4 exact rfl)
  | (apply w_ldrp; iterate 4 exact rfl)
  | (apply w_ldb; iterate 5 exact rfl)
  | (apply w_ldst; iterate 5 exact rfl)
  | ((first | apply w_sllh | apply w_stbi); iterate 4 exact rfl)
  | ((first | apply w_oslo | apply w_oshi | apply w_stbii); iterate 4 exact rfl)
  | (apply w_copy; exact rfl; (first | exact .own rfl rfl rfl | exact .osub); exact rfl; rotate_left 1; exact rfl; (first | exact .ints _ | exact .sli rfl | exact .orow rfl | exact .nil | exact .osub rfl (by simp; omega)))
  | (apply w_build1; exact rfl; exact rfl; (first | exact one_val rfl rfl | exact one_ints | exact one_intss | exact one_own rfl True.intro))
  | (apply w_build2; exact rfl; exact rfl; exact rfl; (first | exact one_val rfl rfl | exact one_ints | exact one_intss | exact one_own rfl True.intro); (first | exact one_val rfl rfl | exact one_ints | exact one_intss | exact one_own rfl True.intro))
  | (apply w_bs0; iterate 1 exact rfl)
  | (apply w_appn; exact rfl; exact rfl; (first | exact .ints _ | exact .sli rfl | exact .orow rfl | exact .nil | exact .osub rfl (by simp; omega)); exact rfl)
  | (apply w_app; exact rfl; exact rfl; exact rfl; exact rfl; (first | exact .ints _ | exact .sli rfl | exact .orow rfl | exact .nil | exact .osub rfl (by simp; omega)); rotate_left 1; simp only [Env.mp, List.map_cons, List.map_nil, List.set_cons_zero, List.set_cons_succ, AV.kill, AV.kill1, AO.kill, AV.noRow, AV.noRow1, AO.via, reduceIte, Nat.reduceEqDiff, Nat.reduceLT, Env.up, Nat.zero_ne_one, Nat.one_ne_zero, Nat.reduceAdd, List.cons_append, List.nil_append]; rotate_left 1)
  | (apply w_alst; iterate 2 exact rfl)
  | (apply w_alone; iterate 3 exact rfl)
  | (apply w_mki; exact rfl; exact rfl; rotate_left 3; exact rfl; rotate_left 1)
  | (apply w_mkr; exact rfl; exact rfl; rotate_left 3; exact rfl; rotate_left 1)
  | (apply w_strow; exact rfl; exact rfl; rotate_left 1; exact rfl; exact rfl; exact rfl; exact rfl; simp only [Env.mp, List.map_cons, List.map_nil, List.set_cons_zero, List.set_cons_succ, AV.kill, AV.kill1, AO.kill, AV.noRow, AV.noRow1, AO.via, reduceIte, Nat.reduceEqDiff, Nat.reduceLT, Env.up, Nat.zero_ne_one, Nat.one_ne_zero, Nat.reduceAdd, List.cons_append, List.nil_append]; rotate_left 1)
  | (apply w_sti; exact rfl; exact rfl; rotate_left 1; exact rfl; rotate_left 2)
  | (apply w_stst; iterate 5 exact rfl)
  | (apply w_stbv; iterate 6 exact rfl)
  | (apply w_stbo; exact rfl; exact rfl; exact rfl; exact rfl; exact rfl; exact True.intro)
  | ((apply AOps.splitB; exact rfl; exact rfl) <;> intro h)
  | apply AllOf.nil
  | (apply AllOf.cons; exact rfl)
  | (apply AAny.take; exact rfl; exact rfl; kernel_rfl; kernel_rfl)
  | (apply AAny.all; exact rfl)
  | (apply AAny.done; exact rfl)
  | (apply inI_of <;> omega)
  | omega
  | (simp <;> omega))
  all_goals exact .int Try.results47 rfl (by unfold cmpT; split <;> (try omega) <;> (try rfl) <;> simp_all)

/-- The i-th term of a polynomial. -/
def PR (xss : List (List Int)) (i : Nat) : Prop :=
  (gets xss i).length = 3 ∧ (0 ≤ geti (gets xss i) 0 ∧ geti (gets xss i) 0 ≤ 60) ∧ (0 ≤ geti (gets xss i) 1 ∧ geti (gets xss i) 1 ≤ 60) ∧ (1 ≤ geti (gets xss i) 2 ∧ geti (gets xss i) 2 ≤ 55440) ∧
    (0 < i → Bef (gets xss ((i : Int) - 1)) (gets xss i))
def IsPo (xss : List (List Int)) : Prop := xss.length ≤ 200 ∧ ∀ j, j < xss.length → PR xss j
noncomputable instance (xss : List (List Int)) : Decidable (IsPo xss) := Classical.propDecidable _
noncomputable def isPo (xss : List (List Int)) : Bool := decide (IsPo xss)

theorem isPo_false {xss : List (List Int)} {i : Nat} (hi : i < xss.length) (h : ¬ PR xss i) : false = isPo xss := (decide_eq_false fun hz => h (hz.2 i hi)).symm
theorem isPo_long {xss : List (List Int)} (h : ¬ xss.length ≤ 200) : false = isPo xss := (decide_eq_false fun hz => h hz.1).symm
theorem isPo_all {xss : List (List Int)} (h : ∀ j, j < xss.length → PR xss j) : isPo xss = decide (xss.length ≤ 200) := by
  unfold isPo
  by_cases h2 : xss.length ≤ 200
  · rw [decide_eq_true ⟨h2, h⟩, decide_eq_true h2]
  · rw [decide_eq_false (fun hz => h2 hz.1), decide_eq_false h2]
theorem isPo_of {xss : List (List Int)} (h : isPo xss = true) : xss.length ≤ 200 ∧ ∀ j, j < xss.length → PR xss j := of_decide_eq_true (p := IsPo xss) h

theorem within3_c (xs : List Int) (hl : xs.length = 3) : AFnV Try.prog 46 [.ints (xs.take (Int.toNat 2)), .i 0, .i 60] (.bool (decide ((0 ≤ geti xs 0 ∧ geti xs 0 ≤ 60) ∧ (0 ≤ geti xs 1 ∧ geti xs 1 ≤ 60)))) := by
  have := within_c (xs.take (Int.toNat 2)) 0 60
  rw [within2 (by simp; omega)] at this
  have e0 : geti (xs.take (Int.toNat 2)) 0 = geti xs 0 := by match xs, hl with | [x, y, z], _ => rfl
  have e1 : geti (xs.take (Int.toNat 2)) 1 = geti xs 1 := by match xs, hl with | [x, y, z], _ => rfl
  rw [e0, e1] at this
  exact this

theorem l17Is_c (xss : List (List Int)) : AFnV Try.prog 21 [.agg [.intss xss]] (.bool (isPo xss)) := by
  (refine AFnV.start Try.func21 Try.ntmps21 rfl (by kernel_rfl) fun hk0 => ?_; simp only [Env.start, enumF, List.length_cons, List.length_nil, Nat.reduceAdd, Nat.reduceSub, List.cons_append, List.nil_append])
  have hk := hk0 _ (List.mem_cons_self ..)
  obtain ⟨hk, hl⟩ := hk (.intss xss) (by simp)
  repeat' (first
  | (apply AOps.nil; try simp only [List.nil_append, List.cons_append, List.set_cons_zero, List.set_cons_succ, List.length_cons, List.length_nil, Nat.reduceAdd, AV.sh, AV.sh1, AV.sh0, AO.sh, List.map_cons, List.map_nil, Nat.zero_add, Nat.add_zero, setAll])
  | ((apply AOps.splitP; exact rfl; exact rfl) <;> intro h)
  | ((apply AOps.splitN; exact rfl; exact rfl) <;> intro h)
  | (apply w_move; exact rfl; exact rfl)
  | (apply w_assign; exact rfl; exact rfl)
  | apply AWp.seq
  | apply AWp.region
  | ((apply AWp.condP; exact rfl) <;> intro h)
  | ((apply AWp.condN; exact rfl) <;> intro h)
  | (apply AWp.condT; exact rfl)
  | (apply AWp.condF; exact rfl)
  | ((apply AWp.condB; exact rfl) <;> intro h)
  | apply AWp.block
  | apply AWp.ret
  | apply AWp.exit
  | apply AWp.skip
  | (apply AWp.regionQ; kernel_rfl; kernel_rfl)
  | (apply if_pos'; exact rfl)
  | (apply if_neg'; decide)
  | (apply w_skip; exact rfl)
  | (apply w_pickT; exact rfl; exact rfl; exact rfl)
  | (apply w_pickF; exact rfl; exact rfl; exact rfl)
  | (apply w_len; exact rfl; exact rfl; first | exact .ints _ | exact .intss _ | exact .sli rfl | exact .sls rfl | exact .slr rfl | exact .orow rfl | exact .nil)
  | ((first | apply w_lss | apply w_leq | apply w_gtr | apply w_geq | apply w_eql | apply w_neq | apply w_add | apply w_sub | apply w_mul | apply w_idx | apply w_ld | apply w_fld | apply w_fa | apply w_extv | apply w_min | apply w_max | apply w_slhi | apply w_sllo | apply w_bs2); iterate 3 exact rfl)
  | ((first | apply w_eqlb | apply w_neqb | apply w_idxs | apply w_lds | apply w_ext); iterate 3 exact rfl)
  | (apply w_rem; exact rfl; exact rfl; exact rfl; (focus (omega; done)); (focus (omega; done)))
  | (apply w_quo; exact rfl; exact rfl; exact rfl; (focus (omega; done)); (focus (omega; done)))
  | (apply w_remT; exact rfl; exact rfl; exact rfl)
  | (apply w_quoT; exact rfl; exact rfl; exact rfl)
  | ((first | apply w_not | apply w_neg | apply w_conv | apply w_build0 | apply w_bs1 | apply w_boxa); iterate 2 exact rfl)
  | (apply w_idxo; exact rfl; exact rfl; (first | exact .sli rfl | exact .sls rfl | exact .slr rfl); exact rfl)
  | ((first | apply w_idxr | apply w_ldr); iterate 4 exact rfl)
  | (apply w_ldo; iterate 4 exact rfl)
  | (apply w_ldls; iterate 4 exact rfl)
  | (apply w_ldrp; iterate 4 exact rfl)
  | (apply w_ldb; iterate 5 exact rfl)
  | (apply w_ldst; iterate 5 exact rfl)
  | ((first | apply w_sllh | apply w_stbi); iterate 4 exact rfl)
  | ((first | apply w_oslo | apply w_oshi | apply w_stbii); iterate 4 exact rfl)
  | (apply w_copy; exact rfl; (first | exact .own rfl rfl rfl | exact .osub); exact rfl; rotate_left 1; exact rfl; (first | exact .ints _ | exact .sli rfl | exact .orow rfl | exact .nil | exact .osub rfl (by simp; omega)))
  | (apply w_build1; exact rfl; exact rfl; (first | exact one_val rfl rfl | exact one_ints | exact one_intss | exact one_own rfl True.intro))
  | (apply w_build2; exact rfl; exact rfl; exact rfl; (first | exact one_val rfl rfl | exact one_ints | exact one_intss | exact one_own rfl True.intro); (first | exact one_val rfl rfl | exact one_ints | exact one_intss | exact one_own rfl True.intro))
  | (apply w_bs0; iterate 1 exact rfl)
  | (apply w_appn; exact rfl; exact rfl; (first | exact .ints _ | exact .sli rfl | exact .orow rfl | exact .nil | exact .osub rfl (by simp; omega)); exact rfl)
  | (apply w_app; exact rfl; exact rfl; exact rfl; exact rfl; (first | exact .ints _ | exact .sli rfl | exact .orow rfl | exact .nil | exact .osub rfl (by simp; omega)); rotate_left 1; simp only [Env.mp, List.map_cons, List.map_nil, List.set_cons_zero, List.set_cons_succ, AV.kill, AV.kill1, AO.kill, AV.noRow, AV.noRow1, AO.via, reduceIte, Nat.reduceEqDiff, Nat.reduceLT, Env.up, Nat.zero_ne_one, Nat.one_ne_zero, Nat.reduceAdd, List.cons_append, List.nil_append]; rotate_left 1)
  | (apply w_alst; iterate 2 exact rfl)
  | (apply w_alone; iterate 3 exact rfl)
  | (apply w_mki; exact rfl; exact rfl; rotate_left 3; exact rfl; rotate_left 1)
  | (apply w_mkr; exact rfl; exact rfl; rotate_left 3; exact rfl; rotate_left 1)
  | (apply w_strow; exact rfl; exact rfl; rotate_left 1; exact rfl; exact rfl; exact rfl; exact rfl; simp only [Env.mp, List.map_cons, List.map_nil, List.set_cons_zero, List.set_cons_succ, AV.kill, AV.kill1, AO.kill, AV.noRow, AV.noRow1, AO.via, reduceIte, Nat.reduceEqDiff, Nat.reduceLT, Env.up, Nat.zero_ne_one, Nat.one_ne_zero, Nat.reduceAdd, List.cons_append, List.nil_append]; rotate_left 1)
  | (apply w_sti; exact rfl; exact rfl; rotate_left 1; exact rfl; rotate_left 2)
  | (apply w_stst; iterate 5 exact rfl)
  | (apply w_stbv; iterate 6 exact rfl)
  | (apply w_stbo; exact rfl; exact rfl; exact rfl; exact rfl; exact rfl; exact True.intro)
  | ((apply AOps.splitB; exact rfl; exact rfl) <;> intro h)
  | apply AllOf.nil
  | (apply AllOf.cons; exact rfl)
  | (apply AAny.take; exact rfl; exact rfl; kernel_rfl; kernel_rfl)
  | (apply AAny.all; exact rfl)
  | (apply AAny.done; exact rfl)
  | (apply inI_of <;> omega)
  | omega
  | (simp <;> omega))
  refine AWp.loop (ι := Nat) (fun i => ⟨73, [(0, .agg [.intss xss]), (1, .optr 0 0), (3, .i i)]⟩) (fun _ => [.bx 26 [.intss xss]]) (fun i => i ≤ xss.length ∧ ∀ j, j < i → PR xss j) (fun i => xss.length - i) 0 ⟨by omega, fun j hj => by omega⟩ ⟨lee rfl (by (repeat (first | exact le_nil | refine le_eq rfl rfl ?_ | refine le_eq rfl (congrArg AV.i (by omega)) ?_))), by (repeat (first | exact lo_nil | refine lo_dead ?_ | refine lo_eq rfl ?_)), rfl, rfl⟩ ?_
  rintro i ⟨h0, h1⟩
  have hprev : 0 < i → (gets xss ((i : Int) - 1)).length = 3 ∧ (0 ≤ geti (gets xss ((i : Int) - 1)) 0 ∧ geti (gets xss ((i : Int) - 1)) 0 ≤ 60) ∧ (0 ≤ geti (gets xss ((i : Int) - 1)) 1 ∧ geti (gets xss ((i : Int) - 1)) 1 ≤ 60) := by
    intro h
    have := h1 (i - 1) (by omega)
    unfold PR at this
    rw [show ((i : Int) - 1) = ((i - 1 : Nat) : Int) by omega]
    exact ⟨this.1, this.2.1, this.2.2.1⟩
  by_cases hi0 : 0 < i
  · obtain ⟨p1, p2, p3⟩ := hprev hi0
    by_cases hz : (gets xss i).length = 3 ∧ (0 ≤ geti (gets xss i) 0 ∧ geti (gets xss i) 0 ≤ 60) ∧ (0 ≤ geti (gets xss i) 1 ∧ geti (gets xss i) 1 ≤ 60) ∧ (1 ≤ geti (gets xss i) 2 ∧ geti (gets xss i) 2 ≤ 55440)
    · have hz' := hz
      obtain ⟨z0, z1, z2, z3⟩ := hz'
      repeat' (first
  | (apply AOps.nil; try simp only [List.nil_append, List.cons_append, List.set_cons_zero, List.set_cons_succ, List.length_cons, List.length_nil, Nat.reduceAdd, AV.sh, AV.sh1, AV.sh0, AO.sh, List.map_cons, List.map_nil, Nat.zero_add, Nat.add_zero, setAll])
  | ((apply AOps.splitP; exact rfl; exact rfl) <;> intro h)
  | ((apply AOps.splitN; exact rfl; exact rfl) <;> intro h)
  | (apply w_move; exact rfl; exact rfl)
  | (apply w_assign; exact rfl; exact rfl)
  | apply AWp.seq
  | apply AWp.region
  | ((apply AWp.condP; exact rfl) <;> intro h)
  | ((apply AWp.condN; exact rfl) <;> intro h)
  | (apply AWp.condT; exact rfl)
  | (apply AWp.condF; exact rfl)
  | ((apply AWp.condB; exact rfl) <;> intro h)
  | apply AWp.block
  | apply AWp.ret
  | apply AWp.exit
  | apply AWp.skip
  | (apply AWp.regionQ; kernel_rfl; kernel_rfl)
  | (apply if_pos'; exact rfl)
  | (apply if_neg'; decide)
  | (apply w_skip; exact rfl)
  | (apply w_pickT; exact rfl; exact rfl; exact rfl)
  | (apply w_pickF; exact rfl; exact rfl; exact rfl)
  | (apply w_len; exact rfl; exact rfl; first | exact .ints _ | exact .intss _ | exact .sli rfl | exact .sls rfl | exact .slr rfl | exact .orow rfl | exact .nil)
  | (apply w_call (l01In_c _ _ _); exact rfl; exact rfl; focus ((repeat (first | exact im_nil | refine im_cons rfl (.val _) ?_ | refine im_cons rfl (.ints _) ?_ | refine im_cons rfl (.intss _) ?_ | refine im_cons rfl (.sli rfl) ?_ | refine im_cons rfl (.sls rfl) ?_ | refine im_cons rfl (.orow rfl) ?_ | refine im_cons rfl (.osub rfl (by simp; omega)) ?_ | refine im_cons rfl (.nil) ?_ | refine im_cons rfl (.nils) ?_ | refine im_cons rfl (im_agg2 (.val _) (.ints _)) ?_ | refine im_cons rfl (im_agg2 (.val _) (.sli rfl)) ?_ | refine im_cons rfl (im_agg2 (.val _) (.nil)) ?_ | refine im_cons rfl (im_agg2 (.ints _) (.intss _)) ?_ | refine im_cons rfl (im_agg2 (.ints _) (.sls rfl)) ?_ | refine im_cons rfl (im_agg2 (.sli rfl) (.intss _)) ?_ | refine im_cons rfl (im_agg2 (.sli rfl) (.sls rfl)) ?_ | refine im_cons rfl (im_agg1 (.ints _)) ?_ | refine im_cons rfl (im_agg1 (.sli rfl)) ?_ | refine im_cons rfl (im_agg1 (.intss _)) ?_ | refine im_cons rfl (im_agg1 (.sls rfl)) ?_ | refine im_cons rfl (im_agg1 (.nil)) ?_ | refine im_cons rfl (im_agg1 (.nils)) ?_)); done))
  | (apply w_call (l17Before_c _ _ _ _ p2 p3 z1 z2); exact rfl; exact rfl; focus ((repeat (first | exact im_nil | refine im_cons rfl (.val _) ?_ | refine im_cons rfl (.ints _) ?_ | refine im_cons rfl (.intss _) ?_ | refine im_cons rfl (.sli rfl) ?_ | refine im_cons rfl (.sls rfl) ?_ | refine im_cons rfl (.orow rfl) ?_ | refine im_cons rfl (.osub rfl (by simp; omega)) ?_ | refine im_cons rfl (.nil) ?_ | refine im_cons rfl (.nils) ?_ | refine im_cons rfl (im_agg2 (.val _) (.ints _)) ?_ | refine im_cons rfl (im_agg2 (.val _) (.sli rfl)) ?_ | refine im_cons rfl (im_agg2 (.val _) (.nil)) ?_ | refine im_cons rfl (im_agg2 (.ints _) (.intss _)) ?_ | refine im_cons rfl (im_agg2 (.ints _) (.sls rfl)) ?_ | refine im_cons rfl (im_agg2 (.sli rfl) (.intss _)) ?_ | refine im_cons rfl (im_agg2 (.sli rfl) (.sls rfl)) ?_ | refine im_cons rfl (im_agg1 (.ints _)) ?_ | refine im_cons rfl (im_agg1 (.sli rfl)) ?_ | refine im_cons rfl (im_agg1 (.intss _)) ?_ | refine im_cons rfl (im_agg1 (.sls rfl)) ?_ | refine im_cons rfl (im_agg1 (.nil)) ?_ | refine im_cons rfl (im_agg1 (.nils)) ?_)); done))
  | ((first | apply w_lss | apply w_leq | apply w_gtr | apply w_geq | apply w_eql | apply w_neq | apply w_add | apply w_sub | apply w_mul | apply w_idx | apply w_ld | apply w_fld | apply w_fa | apply w_extv | apply w_min | apply w_max | apply w_slhi | apply w_sllo | apply w_bs2); iterate 3 exact rfl)
  | ((first | apply w_eqlb | apply w_neqb | apply w_idxs | apply w_lds | apply w_ext); iterate 3 exact rfl)
  | (apply w_rem; exact rfl; exact rfl; exact rfl; (focus (omega; done)); (focus (omega; done)))
  | (apply w_quo; exact rfl; exact rfl; exact rfl; (focus (omega; done)); (focus (omega; done)))
  | (apply w_remT; exact rfl; exact rfl; exact rfl)
  | (apply w_quoT; exact rfl; exact rfl; exact rfl)
  | ((first | apply w_not | apply w_neg | apply w_conv | apply w_build0 | apply w_bs1 | apply w_boxa); iterate 2 exact rfl)
  | (apply w_idxo; exact rfl; exact rfl; (first | exact .sli rfl | exact .sls rfl | exact .slr rfl); exact rfl)
  | ((first | apply w_idxr | apply w_ldr); iterate 4 exact rfl)
  | (apply w_ldo; iterate 4 exact rfl)
  | (apply w_ldls; iterate 4 exact rfl)
  | (apply w_ldrp; iterate 4 exact rfl)
  | (apply w_ldb; iterate 5 exact rfl)
  | (apply w_ldst; iterate 5 exact rfl)
  | ((first | apply w_sllh | apply w_stbi); iterate 4 exact rfl)
  | ((first | apply w_oslo | apply w_oshi | apply w_stbii); iterate 4 exact rfl)
  | (apply w_copy; exact rfl; (first | exact .own rfl rfl rfl | exact .osub); exact rfl; rotate_left 1; exact rfl; (first | exact .ints _ | exact .sli rfl | exact .orow rfl | exact .nil | exact .osub rfl (by simp; omega)))
  | (apply w_build1; exact rfl; exact rfl; (first | exact one_val rfl rfl | exact one_ints | exact one_intss | exact one_own rfl True.intro))
  | (apply w_build2; exact rfl; exact rfl; exact rfl; (first | exact one_val rfl rfl | exact one_ints | exact one_intss | exact one_own rfl True.intro); (first | exact one_val rfl rfl | exact one_ints | exact one_intss | exact one_own rfl True.intro))
  | (apply w_bs0; iterate 1 exact rfl)
  | (apply w_appn; exact rfl; exact rfl; (first | exact .ints _ | exact .sli rfl | exact .orow rfl | exact .nil | exact .osub rfl (by simp; omega)); exact rfl)
  | (apply w_app; exact rfl; exact rfl; exact rfl; exact rfl; (first | exact .ints _ | exact .sli rfl | exact .orow rfl | exact .nil | exact .osub rfl (by simp; omega)); rotate_left 1; simp only [Env.mp, List.map_cons, List.map_nil, List.set_cons_zero, List.set_cons_succ, AV.kill, AV.kill1, AO.kill, AV.noRow, AV.noRow1, AO.via, reduceIte, Nat.reduceEqDiff, Nat.reduceLT, Env.up, Nat.zero_ne_one, Nat.one_ne_zero, Nat.reduceAdd, List.cons_append, List.nil_append]; rotate_left 1)
  | (apply w_alst; iterate 2 exact rfl)
  | (apply w_alone; iterate 3 exact rfl)
  | (apply w_mki; exact rfl; exact rfl; rotate_left 3; exact rfl; rotate_left 1)
  | (apply w_mkr; exact rfl; exact rfl; rotate_left 3; exact rfl; rotate_left 1)
  | (apply w_strow; exact rfl; exact rfl; rotate_left 1; exact rfl; exact rfl; exact rfl; exact rfl; simp only [Env.mp, List.map_cons, List.map_nil, List.set_cons_zero, List.set_cons_succ, AV.kill, AV.kill1, AO.kill, AV.noRow, AV.noRow1, AO.via, reduceIte, Nat.reduceEqDiff, Nat.reduceLT, Env.up, Nat.zero_ne_one, Nat.one_ne_zero, Nat.reduceAdd, List.cons_append, List.nil_append]; rotate_left 1)
  | (apply w_sti; exact rfl; exact rfl; rotate_left 1; exact rfl; rotate_left 2)
  | (apply w_stst; iterate 5 exact rfl)
  | (apply w_stbv; iterate 6 exact rfl)
  | (apply w_stbo; exact rfl; exact rfl; exact rfl; exact rfl; exact rfl; exact True.intro)
  | ((apply AOps.splitB; exact rfl; exact rfl) <;> intro h)
  | apply AllOf.nil
  | (apply AllOf.cons; exact rfl)
  | (apply AAny.take; exact rfl; exact rfl; kernel_rfl; kernel_rfl)
  | (apply AAny.all; exact rfl)
  | (apply AAny.done; exact rfl)
  | (apply inI_of <;> omega)
  | omega
  | (simp <;> omega))
      all_goals first
        | exact .bool Try.results21 rfl (isPo_false (i := i) (by omega) (fun hz => by unfold PR Bef at hz; omega))
        | (refine ⟨i + 1, ⟨by omega, fun j hj => ?_⟩, by omega, ⟨lee rfl (by (repeat (first | exact le_nil | refine le_eq rfl rfl ?_ | refine le_eq rfl (congrArg AV.i (by omega)) ?_))), by (repeat (first | exact lo_nil | refine lo_dead ?_ | refine lo_eq rfl ?_)), rfl, rfl⟩⟩
           by_cases e : j = i
           · subst e
             unfold PR Bef
             omega
           · exact h1 j (by omega))
        | (have e : i = xss.length := by omega
           subst e
           exact .bool Try.results21 rfl (by rw [isPo_all h1]; simp; try omega))
    · repeat' (first
  | (apply AOps.nil; try simp only [List.nil_append, List.cons_append, List.set_cons_zero, List.set_cons_succ, List.length_cons, List.length_nil, Nat.reduceAdd, AV.sh, AV.sh1, AV.sh0, AO.sh, List.map_cons, List.map_nil, Nat.zero_add, Nat.add_zero, setAll])
  | ((apply AOps.splitP; exact rfl; exact rfl) <;> intro h)
  | ((apply AOps.splitN; exact rfl; exact rfl) <;> intro h)
  | (apply w_move; exact rfl; exact rfl)
  | (apply w_assign; exact rfl; exact rfl)
  | apply AWp.seq
  | apply AWp.region
  | ((apply AWp.condP; exact rfl) <;> intro h)
  | ((apply AWp.condN; exact rfl) <;> intro h)
  | (apply AWp.condT; exact rfl)
  | (apply AWp.condF; exact rfl)
  | ((apply AWp.condB; exact rfl) <;> intro h)
  | apply AWp.block
  | apply AWp.ret
  | apply AWp.exit
  | apply AWp.skip
  | (apply AWp.regionQ; kernel_rfl; kernel_rfl)
  | (apply if_pos'; exact rfl)
  | (apply if_neg'; decide)
  | (apply w_skip; exact rfl)
  | (apply w_pickT; exact rfl; exact rfl; exact rfl)
  | (apply w_pickF; exact rfl; exact rfl; exact rfl)
  | (apply w_len; exact rfl; exact rfl; first | exact .ints _ | exact .intss _ | exact .sli rfl | exact .sls rfl | exact .slr rfl | exact .orow rfl | exact .nil)
  | (apply w_call (l01In_c _ _ _); exact rfl; exact rfl; focus ((repeat (first | exact im_nil | refine im_cons rfl (.val _) ?_ | refine im_cons rfl (.ints _) ?_ | refine im_cons rfl (.intss _) ?_ | refine im_cons rfl (.sli rfl) ?_ | refine im_cons rfl (.sls rfl) ?_ | refine im_cons rfl (.orow rfl) ?_ | refine im_cons rfl (.osub rfl (by simp; omega)) ?_ | refine im_cons rfl (.nil) ?_ | refine im_cons rfl (.nils) ?_ | refine im_cons rfl (im_agg2 (.val _) (.ints _)) ?_ | refine im_cons rfl (im_agg2 (.val _) (.sli rfl)) ?_ | refine im_cons rfl (im_agg2 (.val _) (.nil)) ?_ | refine im_cons rfl (im_agg2 (.ints _) (.intss _)) ?_ | refine im_cons rfl (im_agg2 (.ints _) (.sls rfl)) ?_ | refine im_cons rfl (im_agg2 (.sli rfl) (.intss _)) ?_ | refine im_cons rfl (im_agg2 (.sli rfl) (.sls rfl)) ?_ | refine im_cons rfl (im_agg1 (.ints _)) ?_ | refine im_cons rfl (im_agg1 (.sli rfl)) ?_ | refine im_cons rfl (im_agg1 (.intss _)) ?_ | refine im_cons rfl (im_agg1 (.sls rfl)) ?_ | refine im_cons rfl (im_agg1 (.nil)) ?_ | refine im_cons rfl (im_agg1 (.nils)) ?_)); done))
  | omega
  | ((first | apply w_lss | apply w_leq | apply w_gtr | apply w_geq | apply w_eql | apply w_neq | apply w_add | apply w_sub | apply w_mul | apply w_idx | apply w_ld | apply w_fld | apply w_fa | apply w_extv | apply w_min | apply w_max | apply w_slhi | apply w_sllo | apply w_bs2); iterate 3 exact rfl)
  | ((first | apply w_eqlb | apply w_neqb | apply w_idxs | apply w_lds | apply w_ext); iterate 3 exact rfl)
  | (apply w_rem; exact rfl; exact rfl; exact rfl; (focus (omega; done)); (focus (omega; done)))
  | (apply w_quo; exact rfl; exact rfl; exact rfl; (focus (omega; done)); (focus (omega; done)))
  | (apply w_remT; exact rfl; exact rfl; exact rfl)
  | (apply w_quoT; exact rfl; exact rfl; exact rfl)
  | ((first | apply w_not | apply w_neg | apply w_conv | apply w_build0 | apply w_bs1 | apply w_boxa); iterate 2 exact rfl)
  | (apply w_idxo; exact rfl; exact rfl; (first | exact .sli rfl | exact .sls rfl | exact .slr rfl); exact rfl)
  | ((first | apply w_idxr | apply w_ldr); iterate 4 exact rfl)
  | (apply w_ldo; iterate 4 exact rfl)
  | (apply w_ldls; iterate 4 exact rfl)
  | (apply w_ldrp; iterate 4 exact rfl)
  | (apply w_ldb; iterate 5 exact rfl)
  | (apply w_ldst; iterate 5 exact rfl)
  | ((first | apply w_sllh | apply w_stbi); iterate 4 exact rfl)
  | ((first | apply w_oslo | apply w_oshi | apply w_stbii); iterate 4 exact rfl)
  | (apply w_copy; exact rfl; (first | exact .own rfl rfl rfl | exact .osub); exact rfl; rotate_left 1; exact rfl; (first | exact .ints _ | exact .sli rfl | exact .orow rfl | exact .nil | exact .osub rfl (by simp; omega)))
  | (apply w_build1; exact rfl; exact rfl; (first | exact one_val rfl rfl | exact one_ints | exact one_intss | exact one_own rfl True.intro))
  | (apply w_build2; exact rfl; exact rfl; exact rfl; (first | exact one_val rfl rfl | exact one_ints | exact one_intss | exact one_own rfl True.intro); (first | exact one_val rfl rfl | exact one_ints | exact one_intss | exact one_own rfl True.intro))
  | (apply w_bs0; iterate 1 exact rfl)
  | (apply w_appn; exact rfl; exact rfl; (first | exact .ints _ | exact .sli rfl | exact .orow rfl | exact .nil | exact .osub rfl (by simp; omega)); exact rfl)
  | (apply w_app; exact rfl; exact rfl; exact rfl; exact rfl; (first | exact .ints _ | exact .sli rfl | exact .orow rfl | exact .nil | exact .osub rfl (by simp; omega)); rotate_left 1; simp only [Env.mp, List.map_cons, List.map_nil, List.set_cons_zero, List.set_cons_succ, AV.kill, AV.kill1, AO.kill, AV.noRow, AV.noRow1, AO.via, reduceIte, Nat.reduceEqDiff, Nat.reduceLT, Env.up, Nat.zero_ne_one, Nat.one_ne_zero, Nat.reduceAdd, List.cons_append, List.nil_append]; rotate_left 1)
  | (apply w_alst; iterate 2 exact rfl)
  | (apply w_alone; iterate 3 exact rfl)
  | (apply w_mki; exact rfl; exact rfl; rotate_left 3; exact rfl; rotate_left 1)
  | (apply w_mkr; exact rfl; exact rfl; rotate_left 3; exact rfl; rotate_left 1)
  | (apply w_strow; exact rfl; exact rfl; rotate_left 1; exact rfl; exact rfl; exact rfl; exact rfl; simp only [Env.mp, List.map_cons, List.map_nil, List.set_cons_zero, List.set_cons_succ, AV.kill, AV.kill1, AO.kill, AV.noRow, AV.noRow1, AO.via, reduceIte, Nat.reduceEqDiff, Nat.reduceLT, Env.up, Nat.zero_ne_one, Nat.one_ne_zero, Nat.reduceAdd, List.cons_append, List.nil_append]; rotate_left 1)
  | (apply w_sti; exact rfl; exact rfl; rotate_left 1; exact rfl; rotate_left 2)
  | (apply w_stst; iterate 5 exact rfl)
  | (apply w_stbv; iterate 6 exact rfl)
  | (apply w_stbo; exact rfl; exact rfl; exact rfl; exact rfl; exact rfl; exact True.intro)
  | ((apply AOps.splitB; exact rfl; exact rfl) <;> intro h)
  | apply AllOf.nil
  | (apply AllOf.cons; exact rfl)
  | (apply AAny.take; exact rfl; exact rfl; kernel_rfl; kernel_rfl)
  | (apply AAny.all; exact rfl)
  | (apply AAny.done; exact rfl)
  | (apply inI_of <;> omega)
  | omega
  | (simp <;> omega))
      all_goals first
        | exact .bool Try.results21 rfl (isPo_false (i := i) (by omega) (fun hz => by unfold PR Bef at hz; omega))
        | (have e : i = xss.length := by omega
           subst e
           exact .bool Try.results21 rfl (by rw [isPo_all h1]; simp; try omega))
  · obtain rfl : i = 0 := by omega
    simp only [Int.natCast_zero] at *
    repeat' (first
  | (apply AOps.nil; try simp only [List.nil_append, List.cons_append, List.set_cons_zero, List.set_cons_succ, List.length_cons, List.length_nil, Nat.reduceAdd, AV.sh, AV.sh1, AV.sh0, AO.sh, List.map_cons, List.map_nil, Nat.zero_add, Nat.add_zero, setAll])
  | ((apply AOps.splitP; exact rfl; exact rfl) <;> intro h)
  | ((apply AOps.splitN; exact rfl; exact rfl) <;> intro h)
  | (apply w_move; exact rfl; exact rfl)
  | (apply w_assign; exact rfl; exact rfl)
  | apply AWp.seq
  | apply AWp.region
  | ((apply AWp.condP; exact rfl) <;> intro h)
  | ((apply AWp.condN; exact rfl) <;> intro h)
  | (apply AWp.condT; exact rfl)
  | (apply AWp.condF; exact rfl)
  | ((apply AWp.condB; exact rfl) <;> intro h)
  | apply AWp.block
  | apply AWp.ret
  | apply AWp.exit
  | apply AWp.skip
  | (apply AWp.regionQ; kernel_rfl; kernel_rfl)
  | (apply if_pos'; exact rfl)
  | (apply if_neg'; decide)
  | (apply w_skip; exact rfl)
  | (apply w_pickT; exact rfl; exact rfl; exact rfl)
  | (apply w_pickF; exact rfl; exact rfl; exact rfl)
  | (apply w_len; exact rfl; exact rfl; first | exact .ints _ | exact .intss _ | exact .sli rfl | exact .sls rfl | exact .slr rfl | exact .orow rfl | exact .nil)
  | (apply w_call (l01In_c _ _ _); exact rfl; exact rfl; focus ((repeat (first | exact im_nil | refine im_cons rfl (.val _) ?_ | refine im_cons rfl (.ints _) ?_ | refine im_cons rfl (.intss _) ?_ | refine im_cons rfl (.sli rfl) ?_ | refine im_cons rfl (.sls rfl) ?_ | refine im_cons rfl (.orow rfl) ?_ | refine im_cons rfl (.osub rfl (by simp; omega)) ?_ | refine im_cons rfl (.nil) ?_ | refine im_cons rfl (.nils) ?_ | refine im_cons rfl (im_agg2 (.val _) (.ints _)) ?_ | refine im_cons rfl (im_agg2 (.val _) (.sli rfl)) ?_ | refine im_cons rfl (im_agg2 (.val _) (.nil)) ?_ | refine im_cons rfl (im_agg2 (.ints _) (.intss _)) ?_ | refine im_cons rfl (im_agg2 (.ints _) (.sls rfl)) ?_ | refine im_cons rfl (im_agg2 (.sli rfl) (.intss _)) ?_ | refine im_cons rfl (im_agg2 (.sli rfl) (.sls rfl)) ?_ | refine im_cons rfl (im_agg1 (.ints _)) ?_ | refine im_cons rfl (im_agg1 (.sli rfl)) ?_ | refine im_cons rfl (im_agg1 (.intss _)) ?_ | refine im_cons rfl (im_agg1 (.sls rfl)) ?_ | refine im_cons rfl (im_agg1 (.nil)) ?_ | refine im_cons rfl (im_agg1 (.nils)) ?_)); done))
  | omega
  | ((first | apply w_lss | apply w_leq | apply w_gtr | apply w_geq | apply w_eql | apply w_neq | apply w_add | apply w_sub | apply w_mul | apply w_idx | apply w_ld | apply w_fld | apply w_fa | apply w_extv | apply w_min | apply w_max | apply w_slhi | apply w_sllo | apply w_bs2); iterate 3 exact rfl)
  | ((first | apply w_eqlb | apply w_neqb | apply w_idxs | apply w_lds | apply w_ext); iterate 3 exact rfl)
  | (apply w_rem; exact rfl; exact rfl; exact rfl; (focus (omega; done)); (focus (omega; done)))
  | (apply w_quo; exact rfl; exact rfl; exact rfl; (focus (omega; done)); (focus (omega; done)))
  | (apply w_remT; exact rfl; exact rfl; exact rfl)
  | (apply w_quoT; exact rfl; exact rfl; exact rfl)
  | ((first | apply w_not | apply w_neg | apply w_conv | apply w_build0 | apply w_bs1 | apply w_boxa); iterate 2 exact rfl)
  | (apply w_idxo; exact rfl; exact rfl; (first | exact .sli rfl | exact .sls rfl | exact .slr rfl); exact rfl)
  | ((first | apply w_idxr | apply w_ldr); iterate 4 exact rfl)
  | (apply w_ldo; iterate 4 exact rfl)
  | (apply w_ldls; iterate 4 exact rfl)
  | (apply w_ldrp; iterate 4 exact rfl)
  | (apply w_ldb; iterate 5 exact rfl)
  | (apply w_ldst; iterate 5 exact rfl)
  | ((first | apply w_sllh | apply w_stbi); iterate 4 exact rfl)
  | ((first | apply w_oslo | apply w_oshi | apply w_stbii); iterate 4 exact rfl)
  | (apply w_copy; exact rfl; (first | exact .own rfl rfl rfl | exact .osub); exact rfl; rotate_left 1; exact rfl; (first | exact .ints _ | exact .sli rfl | exact .orow rfl | exact .nil | exact .osub rfl (by simp; omega)))
  | (apply w_build1; exact rfl; exact rfl; (first | exact one_val rfl rfl | exact one_ints | exact one_intss | exact one_own rfl True.intro))
  | (apply w_build2; exact rfl; exact rfl; exact rfl; (first | exact one_val rfl rfl | exact one_ints | exact one_intss | exact one_own rfl True.intro); (first | exact one_val rfl rfl | exact one_ints | exact one_intss | exact one_own rfl True.intro))
  | (apply w_bs0; iterate 1 exact rfl)
  | (apply w_appn; exact rfl; exact rfl; (first | exact .ints _ | exact .sli rfl | exact .orow rfl | exact .nil | exact .osub rfl (by simp; omega)); exact rfl)
  | (apply w_app; exact rfl; exact rfl; exact rfl; exact rfl; (first | exact .ints _ | exact .sli rfl | exact .orow rfl | exact .nil | exact .osub rfl (by simp; omega)); rotate_left 1; simp only [Env.mp, List.map_cons, List.map_nil, List.set_cons_zero, List.set_cons_succ, AV.kill, AV.kill1, AO.kill, AV.noRow, AV.noRow1, AO.via, reduceIte, Nat.reduceEqDiff, Nat.reduceLT, Env.up, Nat.zero_ne_one, Nat.one_ne_zero, Nat.reduceAdd, List.cons_append, List.nil_append]; rotate_left 1)
  | (apply w_alst; iterate 2 exact rfl)
  | (apply w_alone; iterate 3 exact rfl)
  | (apply w_mki; exact rfl; exact rfl; rotate_left 3; exact rfl; rotate_left 1)
  | (apply w_mkr; exact rfl; exact rfl; rotate_left 3; exact rfl; rotate_left 1)
  | (apply w_strow; exact rfl; exact rfl; rotate_left 1; exact rfl; exact rfl; exact rfl; exact rfl; simp only [Env.mp, List.map_cons, List.map_nil, List.set_cons_zero, List.set_cons_succ, AV.kill, AV.kill1, AO.kill, AV.noRow, AV.noRow1, AO.via, reduceIte, Nat.reduceEqDiff, Nat.reduceLT, Env.up, Nat.zero_ne_one, Nat.one_ne_zero, Nat.reduceAdd, List.cons_append, List.nil_append]; rotate_left 1)
  | (apply w_sti; exact rfl; exact rfl; rotate_left 1; exact rfl; rotate_left 2)
  | (apply w_stst; iterate 5 exact rfl)
  | (apply w_stbv; iterate 6 exact rfl)
  | (apply w_stbo; exact rfl; exact rfl; exact rfl; exact rfl; exact rfl; exact True.intro)
  | ((apply AOps.splitB; exact rfl; exact rfl) <;> intro h)
  | apply AllOf.nil
  | (apply AllOf.cons; exact rfl)
  | (apply AAny.take; exact rfl; exact rfl; kernel_rfl; kernel_rfl)
  | (apply AAny.all; exact rfl)
  | (apply AAny.done; exact rfl)
  | (apply inI_of <;> omega)
  | omega
  | (simp <;> omega))
    all_goals first
      | exact .bool Try.results21 rfl (isPo_false (i := 0) (by omega) (fun hz => by unfold PR Bef at hz; simp only [Int.natCast_zero] at hz; omega))
      | (refine ⟨0 + 1, ⟨by omega, fun j hj => ?_⟩, by omega, ⟨lee rfl (by (repeat (first | exact le_nil | refine le_eq rfl rfl ?_ | refine le_eq rfl (congrArg AV.i (by omega)) ?_))), by (repeat (first | exact lo_nil | refine lo_dead ?_ | refine lo_eq rfl ?_)), rfl, rfl⟩⟩
         obtain rfl : j = 0 := by omega
         unfold PR
         simp only [Int.natCast_zero]
         omega)
      | (exact .bool Try.results21 rfl (by rw [isPo_all fun j hj => by omega]; simp; try omega))

theorem implIsPoly_c (xss : List (List Int)) : AFnV Try.prog 25 [.agg [.intss xss]] (.bool (isPo xss)) := by
  (refine AFnV.start Try.func25 Try.ntmps25 rfl (by kernel_rfl) fun hk0 => ?_; simp only [Env.start, enumF, List.length_cons, List.length_nil, Nat.reduceAdd, Nat.reduceSub, List.cons_append, List.nil_append])
  have hk := hk0 _ (List.mem_cons_self ..)
  obtain ⟨hk, hl⟩ := hk (.intss xss) (by simp)
  repeat' (first
  | (apply AOps.nil; try simp only [List.nil_append, List.cons_append, List.set_cons_zero, List.set_cons_succ, List.length_cons, List.length_nil, Nat.reduceAdd, AV.sh, AV.sh1, AV.sh0, AO.sh, List.map_cons, List.map_nil, Nat.zero_add, Nat.add_zero, setAll])
  | ((apply AOps.splitP; exact rfl; exact rfl) <;> intro h)
  | ((apply AOps.splitN; exact rfl; exact rfl) <;> intro h)
  | (apply w_move; exact rfl; exact rfl)
  | (apply w_assign; exact rfl; exact rfl)
  | apply AWp.seq
  | apply AWp.region
  | ((apply AWp.condP; exact rfl) <;> intro h)
  | ((apply AWp.condN; exact rfl) <;> intro h)
  | (apply AWp.condT; exact rfl)
  | (apply AWp.condF; exact rfl)
  | ((apply AWp.condB; exact rfl) <;> intro h)
  | apply AWp.block
  | apply AWp.ret
  | apply AWp.exit
  | apply AWp.skip
  | (apply AWp.regionQ; kernel_rfl; kernel_rfl)
  | (apply if_pos'; exact rfl)
  | (apply if_neg'; decide)
  | (apply w_skip; exact rfl)
  | (apply w_pickT; exact rfl; exact rfl; exact rfl)
  | (apply w_pickF; exact rfl; exact rfl; exact rfl)
  | (apply w_len; exact rfl; exact rfl; first | exact .ints _ | exact .intss _ | exact .sli rfl | exact .sls rfl | exact .slr rfl | exact .orow rfl | exact .nil)
  | ((first | apply w_lss | apply w_leq | apply w_gtr | apply w_geq | apply w_eql | apply w_neq | apply w_add | apply w_sub | apply w_mul | apply w_idx | apply w_ld | apply w_fld | apply w_fa | apply w_extv | apply w_min | apply w_max | apply w_slhi | apply w_sllo | apply w_bs2); iterate 3 exact rfl)
  | ((first | apply w_eqlb | apply w_neqb | apply w_idxs | apply w_lds | apply w_ext); iterate 3 exact rfl)
  | (apply w_rem; exact rfl; exact rfl; exact rfl; (focus (omega; done)); (focus (omega; done)))
  | (apply w_quo; exact rfl; exact rfl; exact rfl; (focus (omega; done)); (focus (omega; done)))
  | (apply w_remT; exact rfl; exact rfl; exact rfl)
  | (apply w_quoT; exact rfl; exact rfl; exact rfl)
  | ((first | apply w_not | apply w_neg | apply w_conv | apply w_build0 | apply w_bs1 | apply w_boxa); iterate 2 exact rfl)
  | (apply w_idxo; exact rfl; exact rfl; (first | exact .sli rfl | exact .sls rfl | exact .slr rfl); exact rfl)
  | ((first | apply w_idxr | apply w_ldr); iterate 4 exact rfl)
  | (apply w_ldo; iterate 4 exact rfl)
  | (apply w_ldls; iterate 4 exact rfl)
  | (apply w_ldrp; iterate 4 exact rfl)
  | (apply w_ldb; iterate 5 exact rfl)
  | (apply w_ldst; iterate 5 exact rfl)
  | ((first | apply w_sllh | apply w_stbi); iterate 4 exact rfl)
  | ((first | apply w_oslo | apply w_oshi | apply w_stbii); iterate 4 exact rfl)
  | (apply w_copy; exact rfl; (first | exact .own rfl rfl rfl | exact .osub); exact rfl; rotate_left 1; exact rfl; (first | exact .ints _ | exact .sli rfl | exact .orow rfl | exact .nil | exact .osub rfl (by simp; omega)))
  | (apply w_build1; exact rfl; exact rfl; (first | exact one_val rfl rfl | exact one_ints | exact one_intss | exact one_own rfl True.intro))
  | (apply w_build2; exact rfl; exact rfl; exact rfl; (first | exact one_val rfl rfl | exact one_ints | exact one_intss | exact one_own rfl True.intro); (first | exact one_val rfl rfl | exact one_ints | exact one_intss | exact one_own rfl True.intro))
  | (apply w_bs0; iterate 1 exact rfl)
  | (apply w_appn; exact rfl; exact rfl; (first | exact .ints _ | exact .sli rfl | exact .orow rfl | exact .nil | exact .osub rfl (by simp; omega)); exact rfl)
  | (apply w_app; exact rfl; exact rfl; exact rfl; exact rfl; (first | exact .ints _ | exact .sli rfl | exact .orow rfl | exact .nil | exact .osub rfl (by simp; omega)); rotate_left 1; simp only [Env.mp, List.map_cons, List.map_nil, List.set_cons_zero, List.set_cons_succ, AV.kill, AV.kill1, AO.kill, AV.noRow, AV.noRow1, AO.via, reduceIte, Nat.reduceEqDiff, Nat.reduceLT, Env.up, Nat.zero_ne_one, Nat.one_ne_zero, Nat.reduceAdd, List.cons_append, List.nil_append]; rotate_left 1)
  | (apply w_alst; iterate 2 exact rfl)
  | (apply w_alone; iterate 3 exact rfl)
  | (apply w_mki; exact rfl; exact rfl; rotate_left 3; exact rfl; rotate_left 1)
  | (apply w_mkr; exact rfl; exact rfl; rotate_left 3; exact rfl; rotate_left 1)
  | (apply w_strow; exact rfl; exact rfl; rotate_left 1; exact rfl; exact rfl; exact rfl; exact rfl; simp only [Env.mp, List.map_cons, List.map_nil, List.set_cons_zero, List.set_cons_succ, AV.kill, AV.kill1, AO.kill, AV.noRow, AV.noRow1, AO.via, reduceIte, Nat.reduceEqDiff, Nat.reduceLT, Env.up, Nat.zero_ne_one, Nat.one_ne_zero, Nat.reduceAdd, List.cons_append, List.nil_append]; rotate_left 1)
  | (apply w_sti; exact rfl; exact rfl; rotate_left 1; exact rfl; rotate_left 2)
  | (apply w_stst; iterate 5 exact rfl)
  | (apply w_stbv; iterate 6 exact rfl)
  | (apply w_stbo; exact rfl; exact rfl; exact rfl; exact rfl; exact rfl; exact True.intro)
  | ((apply AOps.splitB; exact rfl; exact rfl) <;> intro h)
  | apply AllOf.nil
  | (apply AllOf.cons; exact rfl)
  | (apply AAny.take; exact rfl; exact rfl; kernel_rfl; kernel_rfl)
  | (apply AAny.all; exact rfl)
  | (apply AAny.done; exact rfl)
  | (apply inI_of <;> omega)
  | omega
  | (simp <;> omega))
  · exact .bool Try.results25 rfl (isPo_long (by omega))
  refine AWp.loop (ι := Nat) (fun i => ⟨47, [(0, .agg [.intss xss]), (1, .optr 0 0), (10, .intss xss), (11, .i xss.length), (12, .i i)]⟩) (fun _ => [.bx 26 [.intss xss]]) (fun i => i ≤ xss.length ∧ ∀ j, j < i → PR xss j) (fun i => xss.length - i) 0 ⟨by omega, fun j hj => by omega⟩ ⟨lee rfl (by (repeat (first | exact le_nil | refine le_eq rfl rfl ?_ | refine le_eq rfl (congrArg AV.i (by omega)) ?_))), by (repeat (first | exact lo_nil | refine lo_dead ?_ | refine lo_eq rfl ?_)), rfl, rfl⟩ ?_
  rintro i ⟨h0, h1⟩
  by_cases hi : i < xss.length
  · by_cases hz : (gets xss i).length = 3
    · by_cases hi0 : 0 < i
      · have hp := h1 (i - 1) (by omega)
        unfold PR at hp
        rw [show ((i - 1 : Nat) : Int) = ((i : Int) - 1) by omega] at hp
        obtain ⟨q0, q1, q2, q3, _⟩ := hp
        by_cases hr : (0 ≤ geti (gets xss i) 0 ∧ geti (gets xss i) 0 ≤ 60) ∧ (0 ≤ geti (gets xss i) 1 ∧ geti (gets xss i) 1 ≤ 60)
        · obtain ⟨r1, r2⟩ := hr
          have hb := cmpT_bef (gets xss ((i : Int) - 1)) (gets xss i)
          repeat' (first
  | (apply AOps.nil; try simp only [List.nil_append, List.cons_append, List.set_cons_zero, List.set_cons_succ, List.length_cons, List.length_nil, Nat.reduceAdd, AV.sh, AV.sh1, AV.sh0, AO.sh, List.map_cons, List.map_nil, Nat.zero_add, Nat.add_zero, setAll])
  | ((apply AOps.splitP; exact rfl; exact rfl) <;> intro h)
  | ((apply AOps.splitN; exact rfl; exact rfl) <;> intro h)
  | (apply w_move; exact rfl; exact rfl)
  | (apply w_assign; exact rfl; exact rfl)
  | apply AWp.seq
  | apply AWp.region
  | ((apply AWp.condP; exact rfl) <;> intro h)
  | ((apply AWp.condN; exact rfl) <;> intro h)
  | (apply AWp.condT; exact rfl)
  | (apply AWp.condF; exact rfl)
  | ((apply AWp.condB; exact rfl) <;> intro h)
  | apply AWp.block
  | apply AWp.ret
  | apply AWp.exit
  | apply AWp.skip
  | (apply AWp.regionQ; kernel_rfl; kernel_rfl)
  | (apply if_pos'; exact rfl)
  | (apply if_neg'; decide)
  | (apply w_skip; exact rfl)
  | (apply w_pickT; exact rfl; exact rfl; exact rfl)
  | (apply w_pickF; exact rfl; exact rfl; exact rfl)
  | (apply w_len; exact rfl; exact rfl; first | exact .ints _ | exact .intss _ | exact .sli rfl | exact .sls rfl | exact .slr rfl | exact .orow rfl | exact .nil)
  | (apply w_call (within3_c _ hz); exact rfl; exact rfl; focus ((repeat (first | exact im_nil | refine im_cons rfl (.val _) ?_ | refine im_cons rfl (.ints _) ?_ | refine im_cons rfl (.intss _) ?_ | refine im_cons rfl (.sli rfl) ?_ | refine im_cons rfl (.sls rfl) ?_ | refine im_cons rfl (.orow rfl) ?_ | refine im_cons rfl (.osub rfl (by simp; omega)) ?_ | refine im_cons rfl (.nil) ?_ | refine im_cons rfl (.nils) ?_ | refine im_cons rfl (im_agg2 (.val _) (.ints _)) ?_ | refine im_cons rfl (im_agg2 (.val _) (.sli rfl)) ?_ | refine im_cons rfl (im_agg2 (.val _) (.nil)) ?_ | refine im_cons rfl (im_agg2 (.ints _) (.intss _)) ?_ | refine im_cons rfl (im_agg2 (.ints _) (.sls rfl)) ?_ | refine im_cons rfl (im_agg2 (.sli rfl) (.intss _)) ?_ | refine im_cons rfl (im_agg2 (.sli rfl) (.sls rfl)) ?_ | refine im_cons rfl (im_agg1 (.ints _)) ?_ | refine im_cons rfl (im_agg1 (.sli rfl)) ?_ | refine im_cons rfl (im_agg1 (.intss _)) ?_ | refine im_cons rfl (im_agg1 (.sls rfl)) ?_ | refine im_cons rfl (im_agg1 (.nil)) ?_ | refine im_cons rfl (im_agg1 (.nils)) ?_)); done))
  | (apply w_call (inRange_c _ _ _); exact rfl; exact rfl; focus ((repeat (first | exact im_nil | refine im_cons rfl (.val _) ?_ | refine im_cons rfl (.ints _) ?_ | refine im_cons rfl (.intss _) ?_ | refine im_cons rfl (.sli rfl) ?_ | refine im_cons rfl (.sls rfl) ?_ | refine im_cons rfl (.orow rfl) ?_ | refine im_cons rfl (.osub rfl (by simp; omega)) ?_ | refine im_cons rfl (.nil) ?_ | refine im_cons rfl (.nils) ?_ | refine im_cons rfl (im_agg2 (.val _) (.ints _)) ?_ | refine im_cons rfl (im_agg2 (.val _) (.sli rfl)) ?_ | refine im_cons rfl (im_agg2 (.val _) (.nil)) ?_ | refine im_cons rfl (im_agg2 (.ints _) (.intss _)) ?_ | refine im_cons rfl (im_agg2 (.ints _) (.sls rfl)) ?_ | refine im_cons rfl (im_agg2 (.sli rfl) (.intss _)) ?_ | refine im_cons rfl (im_agg2 (.sli rfl) (.sls rfl)) ?_ | refine im_cons rfl (im_agg1 (.ints _)) ?_ | refine im_cons rfl (im_agg1 (.sli rfl)) ?_ | refine im_cons rfl (im_agg1 (.intss _)) ?_ | refine im_cons rfl (im_agg1 (.sls rfl)) ?_ | refine im_cons rfl (im_agg1 (.nil)) ?_ | refine im_cons rfl (im_agg1 (.nils)) ?_)); done))
  | (apply w_call (compareTerms_c _ _ q0 hz q1 q2 r1 r2); exact rfl; exact rfl; focus ((repeat (first | exact im_nil | refine im_cons rfl (.val _) ?_ | refine im_cons rfl (.ints _) ?_ | refine im_cons rfl (.intss _) ?_ | refine im_cons rfl (.sli rfl) ?_ | refine im_cons rfl (.sls rfl) ?_ | refine im_cons rfl (.orow rfl) ?_ | refine im_cons rfl (.osub rfl (by simp; omega)) ?_ | refine im_cons rfl (.nil) ?_ | refine im_cons rfl (.nils) ?_ | refine im_cons rfl (im_agg2 (.val _) (.ints _)) ?_ | refine im_cons rfl (im_agg2 (.val _) (.sli rfl)) ?_ | refine im_cons rfl (im_agg2 (.val _) (.nil)) ?_ | refine im_cons rfl (im_agg2 (.ints _) (.intss _)) ?_ | refine im_cons rfl (im_agg2 (.ints _) (.sls rfl)) ?_ | refine im_cons rfl (im_agg2 (.sli rfl) (.intss _)) ?_ | refine im_cons rfl (im_agg2 (.sli rfl) (.sls rfl)) ?_ | refine im_cons rfl (im_agg1 (.ints _)) ?_ | refine im_cons rfl (im_agg1 (.sli rfl)) ?_ | refine im_cons rfl (im_agg1 (.intss _)) ?_ | refine im_cons rfl (im_agg1 (.sls rfl)) ?_ | refine im_cons rfl (im_agg1 (.nil)) ?_ | refine im_cons rfl (im_agg1 (.nils)) ?_)); done))
  | ((first | apply w_lss | apply w_leq | apply w_gtr | apply w_geq | apply w_eql | apply w_neq | apply w_add | apply w_sub | apply w_mul | apply w_idx | apply w_ld | apply w_fld | apply w_fa | apply w_extv | apply w_min | apply w_max | apply w_slhi | apply w_sllo | apply w_bs2); iterate 3 exact rfl)
  | ((first | apply w_eqlb | apply w_neqb | apply w_idxs | apply w_lds | apply w_ext); iterate 3 exact rfl)
  | (apply w_rem; exact rfl; exact rfl; exact rfl; (focus (omega; done)); (focus (omega; done)))
  | (apply w_quo; exact rfl; exact rfl; exact rfl; (focus (omega; done)); (focus (omega; done)))
  | (apply w_remT; exact rfl; exact rfl; exact rfl)
  | (apply w_quoT; exact rfl; exact rfl; exact rfl)
  | ((first | apply w_not | apply w_neg | apply w_conv | apply w_build0 | apply w_bs1 | apply w_boxa); iterate 2 exact rfl)
  | (apply w_idxo; exact rfl; exact rfl; (first | exact .sli rfl | exact .sls rfl | exact .slr rfl); exact rfl)
  | ((first | apply w_idxr | apply w_ldr); iterate 4 exact rfl)
  | (apply w_ldo; iterate 4 exact rfl)
  | (apply w_ldls; iterate 4 exact rfl)
  | (apply w_ldrp; iterate 4 exact rfl)
  | (apply w_ldb; iterate 5 exact rfl)
  | (apply w_ldst; iterate 5 exact rfl)
  | ((first | apply w_sllh | apply w_stbi); iterate 4 exact rfl)
  | ((first | apply w_oslo | apply w_oshi | apply w_stbii); iterate 4 exact rfl)
  | (apply w_copy; exact rfl; (first | exact .own rfl rfl rfl | exact .osub); exact rfl; rotate_left 1; exact rfl; (first | exact .ints _ | exact .sli rfl | exact .orow rfl | exact .nil | exact .osub rfl (by simp; omega)))
  | (apply w_build1; exact rfl; exact rfl; (first | exact one_val rfl rfl | exact one_ints | exact one_intss | exact one_own rfl True.intro))
  | (apply w_build2; exact rfl; exact rfl; exact rfl; (first | exact one_val rfl rfl | exact one_ints | exact one_intss | exact one_own rfl True.intro); (first | exact one_val rfl rfl | exact one_ints | exact one_intss | exact one_own rfl True.intro))
  | (apply w_bs0; iterate 1 exact rfl)
  | (apply w_appn; exact rfl; exact rfl; (first | exact .ints _ | exact .sli rfl | exact .orow rfl | exact .nil | exact .osub rfl (by simp; omega)); exact rfl)
  | (apply w_app; exact rfl; exact rfl; exact rfl; exact rfl; (first | exact .ints _ | exact .sli rfl | exact .orow rfl | exact .nil | exact .osub rfl (by simp; omega)); rotate_left 1; simp only [Env.mp, List.map_cons, List.map_nil, List.set_cons_zero, List.set_cons_succ, AV.kill, AV.kill1, AO.kill, AV.noRow, AV.noRow1, AO.via, reduceIte, Nat.reduceEqDiff, Nat.reduceLT, Env.up, Nat.zero_ne_one, Nat.one_ne_zero, Nat.reduceAdd, List.cons_append, List.nil_append]; rotate_left 1)
  | (apply w_alst; iterate 2 exact rfl)
  | (apply w_alone; iterate 3 exact rfl)
  | (apply w_mki; exact rfl; exact rfl; rotate_left 3; exact rfl; rotate_left 1)
  | (apply w_mkr; exact rfl; exact rfl; rotate_left 3; exact rfl; rotate_left 1)
  | (apply w_strow; exact rfl; exact rfl; rotate_left 1; exact rfl; exact rfl; exact rfl; exact rfl; simp only [Env.mp, List.map_cons, List.map_nil, List.set_cons_zero, List.set_cons_succ, AV.kill, AV.kill1, AO.kill, AV.noRow, AV.noRow1, AO.via, reduceIte, Nat.reduceEqDiff, Nat.reduceLT, Env.up, Nat.zero_ne_one, Nat.one_ne_zero, Nat.reduceAdd, List.cons_append, List.nil_append]; rotate_left 1)
  | (apply w_sti; exact rfl; exact rfl; rotate_left 1; exact rfl; rotate_left 2)
  | (apply w_stst; iterate 5 exact rfl)
  | (apply w_stbv; iterate 6 exact rfl)
  | (apply w_stbo; exact rfl; exact rfl; exact rfl; exact rfl; exact rfl; exact True.intro)
  | ((apply AOps.splitB; exact rfl; exact rfl) <;> intro h)
  | apply AllOf.nil
  | (apply AllOf.cons; exact rfl)
  | (apply AAny.take; exact rfl; exact rfl; kernel_rfl; kernel_rfl)
  | (apply AAny.all; exact rfl)
  | (apply AAny.done; exact rfl)
  | (apply inI_of <;> omega)
  | omega
  | (simp <;> omega))
          all_goals first
            | (refine .bool Try.results25 rfl (isPo_false (i := i) hi ?_)
               intro hz
               unfold PR at hz
               first
                 | omega
                 | exact absurd (hz.2.2.2.2 hi0) (hb.1 (by assumption)))
            | (refine ⟨i + 1, ⟨by omega, fun j hj => ?_⟩, by omega, ⟨lee rfl (by (repeat (first | exact le_nil | refine le_eq rfl rfl ?_ | refine le_eq rfl (congrArg AV.i (by omega)) ?_))), by (repeat (first | exact lo_nil | refine lo_dead ?_ | refine lo_eq rfl ?_)), rfl, rfl⟩⟩
               by_cases e : j = i
               · subst e
                 refine ⟨hz, r1, r2, by omega, fun _ => ?_⟩
                 exact Classical.byContradiction fun hn => by have := hb.2 hn; omega
               · exact h1 j (by omega))
        · repeat' (first
  | (apply AOps.nil; try simp only [List.nil_append, List.cons_append, List.set_cons_zero, List.set_cons_succ, List.length_cons, List.length_nil, Nat.reduceAdd, AV.sh, AV.sh1, AV.sh0, AO.sh, List.map_cons, List.map_nil, Nat.zero_add, Nat.add_zero, setAll])
  | ((apply AOps.splitP; exact rfl; exact rfl) <;> intro h)
  | ((apply AOps.splitN; exact rfl; exact rfl) <;> intro h)
  | (apply w_move; exact rfl; exact rfl)
  | (apply w_assign; exact rfl; exact rfl)
  | apply AWp.seq
  | apply AWp.region
  | ((apply AWp.condP; exact rfl) <;> intro h)
  | ((apply AWp.condN; exact rfl) <;> intro h)
  | (apply AWp.condT; exact rfl)
  | (apply AWp.condF; exact rfl)
  | ((apply AWp.condB; exact rfl) <;> intro h)
  | apply AWp.block
  | apply AWp.ret
  | apply AWp.exit
  | apply AWp.skip
  | (apply AWp.regionQ; kernel_rfl; kernel_rfl)
  | (apply if_pos'; exact rfl)
  | (apply if_neg'; decide)
  | (apply w_skip; exact rfl)
  | (apply w_pickT; exact rfl; exact rfl; exact rfl)
  | (apply w_pickF; exact rfl; exact rfl; exact rfl)
  | (apply w_len; exact rfl; exact rfl; first | exact .ints _ | exact .intss _ | exact .sli rfl | exact .sls rfl | exact .slr rfl | exact .orow rfl | exact .nil)
  | (apply w_call (within3_c _ hz); exact rfl; exact rfl; focus ((repeat (first | exact im_nil | refine im_cons rfl (.val _) ?_ | refine im_cons rfl (.ints _) ?_ | refine im_cons rfl (.intss _) ?_ | refine im_cons rfl (.sli rfl) ?_ | refine im_cons rfl (.sls rfl) ?_ | refine im_cons rfl (.orow rfl) ?_ | refine im_cons rfl (.osub rfl (by simp; omega)) ?_ | refine im_cons rfl (.nil) ?_ | refine im_cons rfl (.nils) ?_ | refine im_cons rfl (im_agg2 (.val _) (.ints _)) ?_ | refine im_cons rfl (im_agg2 (.val _) (.sli rfl)) ?_ | refine im_cons rfl (im_agg2 (.val _) (.nil)) ?_ | refine im_cons rfl (im_agg2 (.ints _) (.intss _)) ?_ | refine im_cons rfl (im_agg2 (.ints _) (.sls rfl)) ?_ | refine im_cons rfl (im_agg2 (.sli rfl) (.intss _)) ?_ | refine im_cons rfl (im_agg2 (.sli rfl) (.sls rfl)) ?_ | refine im_cons rfl (im_agg1 (.ints _)) ?_ | refine im_cons rfl (im_agg1 (.sli rfl)) ?_ | refine im_cons rfl (im_agg1 (.intss _)) ?_ | refine im_cons rfl (im_agg1 (.sls rfl)) ?_ | refine im_cons rfl (im_agg1 (.nil)) ?_ | refine im_cons rfl (im_agg1 (.nils)) ?_)); done))
  | (apply w_call (inRange_c _ _ _); exact rfl; exact rfl; focus ((repeat (first | exact im_nil | refine im_cons rfl (.val _) ?_ | refine im_cons rfl (.ints _) ?_ | refine im_cons rfl (.intss _) ?_ | refine im_cons rfl (.sli rfl) ?_ | refine im_cons rfl (.sls rfl) ?_ | refine im_cons rfl (.orow rfl) ?_ | refine im_cons rfl (.osub rfl (by simp; omega)) ?_ | refine im_cons rfl (.nil) ?_ | refine im_cons rfl (.nils) ?_ | refine im_cons rfl (im_agg2 (.val _) (.ints _)) ?_ | refine im_cons rfl (im_agg2 (.val _) (.sli rfl)) ?_ | refine im_cons rfl (im_agg2 (.val _) (.nil)) ?_ | refine im_cons rfl (im_agg2 (.ints _) (.intss _)) ?_ | refine im_cons rfl (im_agg2 (.ints _) (.sls rfl)) ?_ | refine im_cons rfl (im_agg2 (.sli rfl) (.intss _)) ?_ | refine im_cons rfl (im_agg2 (.sli rfl) (.sls rfl)) ?_ | refine im_cons rfl (im_agg1 (.ints _)) ?_ | refine im_cons rfl (im_agg1 (.sli rfl)) ?_ | refine im_cons rfl (im_agg1 (.intss _)) ?_ | refine im_cons rfl (im_agg1 (.sls rfl)) ?_ | refine im_cons rfl (im_agg1 (.nil)) ?_ | refine im_cons rfl (im_agg1 (.nils)) ?_)); done))
  | omega
  | ((first | apply w_lss | apply w_leq | apply w_gtr | apply w_geq | apply w_eql | apply w_neq | apply w_add | apply w_sub | apply w_mul | apply w_idx | apply w_ld | apply w_fld | apply w_fa | apply w_extv | apply w_min | apply w_max | apply w_slhi | apply w_sllo | apply w_bs2); iterate 3 exact rfl)
  | ((first | apply w_eqlb | apply w_neqb | apply w_idxs | apply w_lds | apply w_ext); iterate 3 exact rfl)
  | (apply w_rem; exact rfl; exact rfl; exact rfl; (focus (omega; done)); (focus (omega; done)))
  | (apply w_quo; exact rfl; exact rfl; exact rfl; (focus (omega; done)); (focus (omega; done)))
  | (apply w_remT; exact rfl; exact rfl; exact rfl)
  | (apply w_quoT; exact rfl; exact rfl; exact rfl)
  | ((first | apply w_not | apply w_neg | apply w_conv | apply w_build0 | apply w_bs1 | apply w_boxa); iterate 2 exact rfl)
  | (apply w_idxo; exact rfl; exact rfl; (first | exact .sli rfl | exact .sls rfl | exact .slr rfl); exact rfl)
  | ((first | apply w_idxr | apply w_ldr); iterate 4 exact rfl)
  | (apply w_ldo; iterate 4 exact rfl)
  | (apply w_ldls; iterate 4 exact rfl)
  | (apply w_ldrp; iterate 4 exact rfl)
  | (apply w_ldb; iterate 5 exact rfl)
  | (apply w_ldst; iterate 5 exact rfl)
  | ((first | apply w_sllh | apply w_stbi); iterate 4 exact rfl)
  | ((first | apply w_oslo | apply w_oshi | apply w_stbii); iterate 4 exact rfl)
  | (apply w_copy; exact rfl; (first | exact .own rfl rfl rfl | exact .osub); exact rfl; rotate_left 1; exact rfl; (first | exact .ints _ | exact .sli rfl | exact .orow rfl | exact .nil | exact .osub rfl (by simp; omega)))
  | (apply w_build1; exact rfl; exact rfl; (first | exact one_val rfl rfl | exact one_ints | exact one_intss | exact one_own rfl True.intro))
  | (apply w_build2; exact rfl; exact rfl; exact rfl; (first | exact one_val rfl rfl | exact one_ints | exact one_intss | exact one_own rfl True.intro); (first | exact one_val rfl rfl | exact one_ints | exact one_intss | exact one_own rfl True.intro))
  | (apply w_bs0; iterate 1 exact rfl)
  | (apply w_appn; exact rfl; exact rfl; (first | exact .ints _ | exact .sli rfl | exact .orow rfl | exact .nil | exact .osub rfl (by simp; omega)); exact rfl)
  | (apply w_app; exact rfl; exact rfl; exact rfl; exact rfl; (first | exact .ints _ | exact .sli rfl | exact .orow rfl | exact .nil | exact .osub rfl (by simp; omega)); rotate_left 1; simp only [Env.mp, List.map_cons, List.map_nil, List.set_cons_zero, List.set_cons_succ, AV.kill, AV.kill1, AO.kill, AV.noRow, AV.noRow1, AO.via, reduceIte, Nat.reduceEqDiff, Nat.reduceLT, Env.up, Nat.zero_ne_one, Nat.one_ne_zero, Nat.reduceAdd, List.cons_append, List.nil_append]; rotate_left 1)
  | (apply w_alst; iterate 2 exact rfl)
  | (apply w_alone; iterate 3 exact rfl)
  | (apply w_mki; exact rfl; exact rfl; rotate_left 3; exact rfl; rotate_left 1)
  | (apply w_mkr; exact rfl; exact rfl; rotate_left 3; exact rfl; rotate_left 1)
  | (apply w_strow; exact rfl; exact rfl; rotate_left 1; exact rfl; exact rfl; exact rfl; exact rfl; simp only [Env.mp, List.map_cons, List.map_nil, List.set_cons_zero, List.set_cons_succ, AV.kill, AV.kill1, AO.kill, AV.noRow, AV.noRow1, AO.via, reduceIte, Nat.reduceEqDiff, Nat.reduceLT, Env.up, Nat.zero_ne_one, Nat.one_ne_zero, Nat.reduceAdd, List.cons_append, List.nil_append]; rotate_left 1)
  | (apply w_sti; exact rfl; exact rfl; rotate_left 1; exact rfl; rotate_left 2)
  | (apply w_stst; iterate 5 exact rfl)
  | (apply w_stbv; iterate 6 exact rfl)
  | (apply w_stbo; exact rfl; exact rfl; exact rfl; exact rfl; exact rfl; exact True.intro)
  | ((apply AOps.splitB; exact rfl; exact rfl) <;> intro h)
  | apply AllOf.nil
  | (apply AllOf.cons; exact rfl)
  | (apply AAny.take; exact rfl; exact rfl; kernel_rfl; kernel_rfl)
  | (apply AAny.all; exact rfl)
  | (apply AAny.done; exact rfl)
  | (apply inI_of <;> omega)
  | omega
  | (simp <;> omega))
          all_goals refine .bool Try.results25 rfl (isPo_false (i := i) hi ?_)
          all_goals intro hz
          all_goals unfold PR at hz
          all_goals omega
      · obtain rfl : i = 0 := by omega
        simp only [Int.natCast_zero] at *
        repeat' (first
  | (apply AOps.nil; try simp only [List.nil_append, List.cons_append, List.set_cons_zero, List.set_cons_succ, List.length_cons, List.length_nil, Nat.reduceAdd, AV.sh, AV.sh1, AV.sh0, AO.sh, List.map_cons, List.map_nil, Nat.zero_add, Nat.add_zero, setAll])
  | ((apply AOps.splitP; exact rfl; exact rfl) <;> intro h)
  | ((apply AOps.splitN; exact rfl; exact rfl) <;> intro h)
  | (apply w_move; exact rfl; exact rfl)
  | (apply w_assign; exact rfl; exact rfl)
  | apply AWp.seq
  | apply AWp.region
  | ((apply AWp.condP; exact rfl) <;> intro h)
  | ((apply AWp.condN; exact rfl) <;> intro h)
  | (apply AWp.condT; exact rfl)
  | (apply AWp.condF; exact rfl)
  | ((apply AWp.condB; exact rfl) <;> intro h)
  | apply AWp.block
  | apply AWp.ret
  | apply AWp.exit
  | apply AWp.skip
  | (apply AWp.regionQ; kernel_rfl; kernel_rfl)
  | (apply if_pos'; exact rfl)
  | (apply if_neg'; decide)
  | (apply w_skip; exact rfl)
  | (apply w_pickT; exact rfl; exact rfl; exact rfl)
  | (apply w_pickF; exact rfl; exact rfl; exact rfl)
  | (apply w_len; exact rfl; exact rfl; first | exact .ints _ | exact .intss _ | exact .sli rfl | exact .sls rfl | exact .slr rfl | exact .orow rfl | exact .nil)
  | (apply w_call (within3_c _ hz); exact rfl; exact rfl; focus ((repeat (first | exact im_nil | refine im_cons rfl (.val _) ?_ | refine im_cons rfl (.ints _) ?_ | refine im_cons rfl (.intss _) ?_ | refine im_cons rfl (.sli rfl) ?_ | refine im_cons rfl (.sls rfl) ?_ | refine im_cons rfl (.orow rfl) ?_ | refine im_cons rfl (.osub rfl (by simp; omega)) ?_ | refine im_cons rfl (.nil) ?_ | refine im_cons rfl (.nils) ?_ | refine im_cons rfl (im_agg2 (.val _) (.ints _)) ?_ | refine im_cons rfl (im_agg2 (.val _) (.sli rfl)) ?_ | refine im_cons rfl (im_agg2 (.val _) (.nil)) ?_ | refine im_cons rfl (im_agg2 (.ints _) (.intss _)) ?_ | refine im_cons rfl (im_agg2 (.ints _) (.sls rfl)) ?_ | refine im_cons rfl (im_agg2 (.sli rfl) (.intss _)) ?_ | refine im_cons rfl (im_agg2 (.sli rfl) (.sls rfl)) ?_ | refine im_cons rfl (im_agg1 (.ints _)) ?_ | refine im_cons rfl (im_agg1 (.sli rfl)) ?_ | refine im_cons rfl (im_agg1 (.intss _)) ?_ | refine im_cons rfl (im_agg1 (.sls rfl)) ?_ | refine im_cons rfl (im_agg1 (.nil)) ?_ | refine im_cons rfl (im_agg1 (.nils)) ?_)); done))
  | (apply w_call (inRange_c _ _ _); exact rfl; exact rfl; focus ((repeat (first | exact im_nil | refine im_cons rfl (.val _) ?_ | refine im_cons rfl (.ints _) ?_ | refine im_cons rfl (.intss _) ?_ | refine im_cons rfl (.sli rfl) ?_ | refine im_cons rfl (.sls rfl) ?_ | refine im_cons rfl (.orow rfl) ?_ | refine im_cons rfl (.osub rfl (by simp; omega)) ?_ | refine im_cons rfl (.nil) ?_ | refine im_cons rfl (.nils) ?_ | refine im_cons rfl (im_agg2 (.val _) (.ints _)) ?_ | refine im_cons rfl (im_agg2 (.val _) (.sli rfl)) ?_ | refine im_cons rfl (im_agg2 (.val _) (.nil)) ?_ | refine im_cons rfl (im_agg2 (.ints _) (.intss _)) ?_ | refine im_cons rfl (im_agg2 (.ints _) (.sls rfl)) ?_ | refine im_cons rfl (im_agg2 (.sli rfl) (.intss _)) ?_ | refine im_cons rfl (im_agg2 (.sli rfl) (.sls rfl)) ?_ | refine im_cons rfl (im_agg1 (.ints _)) ?_ | refine im_cons rfl (im_agg1 (.sli rfl)) ?_ | refine im_cons rfl (im_agg1 (.intss _)) ?_ | refine im_cons rfl (im_agg1 (.sls rfl)) ?_ | refine im_cons rfl (im_agg1 (.nil)) ?_ | refine im_cons rfl (im_agg1 (.nils)) ?_)); done))
  | omega
  | ((first | apply w_lss | apply w_leq | apply w_gtr | apply w_geq | apply w_eql | apply w_neq | apply w_add | apply w_sub | apply w_mul | apply w_idx | apply w_ld | apply w_fld | apply w_fa | apply w_extv | apply w_min | apply w_max | apply w_slhi | apply w_sllo | apply w_bs2); iterate 3 exact rfl)
  | ((first | apply w_eqlb | apply w_neqb | apply w_idxs | apply w_lds | apply w_ext); iterate 3 exact rfl)
  | (apply w_rem; exact rfl; exact rfl; exact rfl; (focus (omega; done)); (focus (omega; done)))
  | (apply w_quo; exact rfl; exact rfl; exact rfl; (focus (omega; done)); (focus (omega; done)))
  | (apply w_remT; exact rfl; exact rfl; exact rfl)
  | (apply w_quoT; exact rfl; exact rfl; exact rfl)
  | ((first | apply w_not | apply w_neg | apply w_conv | apply w_build0 | apply w_bs1 | apply w_boxa); iterate 2 exact rfl)
  | (apply w_idxo; exact rfl; exact rfl; (first | exact .sli rfl | exact .sls rfl | exact .slr rfl); exact rfl)
  | ((first | apply w_idxr | apply w_ldr); iterate 4 exact rfl)
  | (apply w_ldo; iterate 4 exact rfl)
  | (apply w_ldls; iterate 4 exact rfl)
  | (apply w_ldrp; iterate 4 exact rfl)
  | (apply w_ldb; iterate 5 exact rfl)
  | (apply w_ldst; iterate 5 exact rfl)
  | ((first | apply w_sllh | apply w_stbi); iterate 4 exact rfl)
  | ((first | apply w_oslo | apply w_oshi | apply w_stbii); iterate 4 exact rfl)
  | (apply w_copy; exact rfl; (first | exact .own rfl rfl rfl | exact .osub); exact rfl; rotate_left 1; exact rfl; (first | exact .ints _ | exact .sli rfl | exact .orow rfl | exact .nil | exact .osub rfl (by simp; omega)))
  | (apply w_build1; exact rfl; exact rfl; (first | exact one_val rfl rfl | exact one_ints | exact one_intss | exact one_own rfl True.intro))
  | (apply w_build2; exact rfl; exact rfl; exact rfl; (first | exact one_val rfl rfl | exact one_ints | exact one_intss | exact one_own rfl True.intro); (first | exact one_val rfl rfl | exact one_ints | exact one_intss | exact one_own rfl True.intro))
  | (apply w_bs0; iterate 1 exact rfl)
  | (apply w_appn; exact rfl; exact rfl; (first | exact .ints _ | exact .sli rfl | exact .orow rfl | exact .nil | exact .osub rfl (by simp; omega)); exact rfl)
  | (apply w_app; exact rfl; exact rfl; exact rfl; exact rfl; (first | exact .ints _ | exact .sli rfl | exact .orow rfl | exact .nil | exact .osub rfl (by simp; omega)); rotate_left 1; simp only [Env.mp, List.map_cons, List.map_nil, List.set_cons_zero, List.set_cons_succ, AV.kill, AV.kill1, AO.kill, AV.noRow, AV.noRow1, AO.via, reduceIte, Nat.reduceEqDiff, Nat.reduceLT, Env.up, Nat.zero_ne_one, Nat.one_ne_zero, Nat.reduceAdd, List.cons_append, List.nil_append]; rotate_left 1)
  | (apply w_alst; iterate 2 exact rfl)
  | (apply w_alone; iterate 3 exact rfl)
  | (apply w_mki; exact rfl; exact rfl; rotate_left 3; exact rfl; rotate_left 1)
  | (apply w_mkr; exact rfl; exact rfl; rotate_left 3; exact rfl; rotate_left 1)
  | (apply w_strow; exact rfl; exact rfl; rotate_left 1; exact rfl; exact rfl; exact rfl; exact rfl; simp only [Env.mp, List.map_cons, List.map_nil, List.set_cons_zero, List.set_cons_succ, AV.kill, AV.kill1, AO.kill, AV.noRow, AV.noRow1, AO.via, reduceIte, Nat.reduceEqDiff, Nat.reduceLT, Env.up, Nat.zero_ne_one, Nat.one_ne_zero, Nat.reduceAdd, List.cons_append, List.nil_append]; rotate_left 1)
  | (apply w_sti; exact rfl; exact rfl; rotate_left 1; exact rfl; rotate_left 2)
  | (apply w_stst; iterate 5 exact rfl)
  | (apply w_stbv; iterate 6 exact rfl)
  | (apply w_stbo; exact rfl; exact rfl; exact rfl; exact rfl; exact rfl; exact True.intro)
  | ((apply AOps.splitB; exact rfl; exact rfl) <;> intro h)
  | apply AllOf.nil
  | (apply AllOf.cons; exact rfl)
  | (apply AAny.take; exact rfl; exact rfl; kernel_rfl; kernel_rfl)
  | (apply AAny.all; exact rfl)
  | (apply AAny.done; exact rfl)
  | (apply inI_of <;> omega)
  | omega
  | (simp <;> omega))
        all_goals first
          | (refine .bool Try.results25 rfl (isPo_false (i := 0) hi ?_)
             intro hz
             unfold PR at hz
             simp only [Int.natCast_zero] at hz
             omega)
          | (refine ⟨0 + 1, ⟨by omega, fun j hj => ?_⟩, by omega, ⟨lee rfl (by (repeat (first | exact le_nil | refine le_eq rfl rfl ?_ | refine le_eq rfl (congrArg AV.i (by omega)) ?_))), by (repeat (first | exact lo_nil | refine lo_dead ?_ | refine lo_eq rfl ?_)), rfl, rfl⟩⟩
             obtain rfl : j = 0 := by omega
             unfold PR
             simp only [Int.natCast_zero]
             omega)
    · repeat' (first
  | (apply AOps.nil; try simp only [List.nil_append, List.cons_append, List.set_cons_zero, List.set_cons_succ, List.length_cons, List.length_nil, Nat.reduceAdd, AV.sh, AV.sh1, AV.sh0, AO.sh, List.map_cons, List.map_nil, Nat.zero_add, Nat.add_zero, setAll])
  | ((apply AOps.splitP; exact rfl; exact rfl) <;> intro h)
  | ((apply AOps.splitN; exact rfl; exact rfl) <;> intro h)
  | (apply w_move; exact rfl; exact rfl)
  | (apply w_assign; exact rfl; exact rfl)
  | apply AWp.seq
  | apply AWp.region
  | ((apply AWp.condP; exact rfl) <;> intro h)
  | ((apply AWp.condN; exact rfl) <;> intro h)
  | (apply AWp.condT; exact rfl)
  | (apply AWp.condF; exact rfl)
  | ((apply AWp.condB; exact rfl) <;> intro h)
  | apply AWp.block
  | apply AWp.ret
  | apply AWp.exit
  | apply AWp.skip
  | (apply AWp.regionQ; kernel_rfl; kernel_rfl)
  | (apply if_pos'; exact rfl)
  | (apply if_neg'; decide)
  | (apply w_skip; exact rfl)
  | (apply w_pickT; exact rfl; exact rfl; exact rfl)
  | (apply w_pickF; exact rfl; exact rfl; exact rfl)
  | (apply w_len; exact rfl; exact rfl; first | exact .ints _ | exact .intss _ | exact .sli rfl | exact .sls rfl | exact .slr rfl | exact .orow rfl | exact .nil)
  | (apply w_call (within_c _ _ _); exact rfl; exact rfl; focus ((repeat (first | exact im_nil | refine im_cons rfl (.val _) ?_ | refine im_cons rfl (.ints _) ?_ | refine im_cons rfl (.intss _) ?_ | refine im_cons rfl (.sli rfl) ?_ | refine im_cons rfl (.sls rfl) ?_ | refine im_cons rfl (.orow rfl) ?_ | refine im_cons rfl (.osub rfl (by simp; omega)) ?_ | refine im_cons rfl (.nil) ?_ | refine im_cons rfl (.nils) ?_ | refine im_cons rfl (im_agg2 (.val _) (.ints _)) ?_ | refine im_cons rfl (im_agg2 (.val _) (.sli rfl)) ?_ | refine im_cons rfl (im_agg2 (.val _) (.nil)) ?_ | refine im_cons rfl (im_agg2 (.ints _) (.intss _)) ?_ | refine im_cons rfl (im_agg2 (.ints _) (.sls rfl)) ?_ | refine im_cons rfl (im_agg2 (.sli rfl) (.intss _)) ?_ | refine im_cons rfl (im_agg2 (.sli rfl) (.sls rfl)) ?_ | refine im_cons rfl (im_agg1 (.ints _)) ?_ | refine im_cons rfl (im_agg1 (.sli rfl)) ?_ | refine im_cons rfl (im_agg1 (.intss _)) ?_ | refine im_cons rfl (im_agg1 (.sls rfl)) ?_ | refine im_cons rfl (im_agg1 (.nil)) ?_ | refine im_cons rfl (im_agg1 (.nils)) ?_)); done))
  | (apply w_call (inRange_c _ _ _); exact rfl; exact rfl; focus ((repeat (first | exact im_nil | refine im_cons rfl (.val _) ?_ | refine im_cons rfl (.ints _) ?_ | refine im_cons rfl (.intss _) ?_ | refine im_cons rfl (.sli rfl) ?_ | refine im_cons rfl (.sls rfl) ?_ | refine im_cons rfl (.orow rfl) ?_ | refine im_cons rfl (.osub rfl (by simp; omega)) ?_ | refine im_cons rfl (.nil) ?_ | refine im_cons rfl (.nils) ?_ | refine im_cons rfl (im_agg2 (.val _) (.ints _)) ?_ | refine im_cons rfl (im_agg2 (.val _) (.sli rfl)) ?_ | refine im_cons rfl (im_agg2 (.val _) (.nil)) ?_ | refine im_cons rfl (im_agg2 (.ints _) (.intss _)) ?_ | refine im_cons rfl (im_agg2 (.ints _) (.sls rfl)) ?_ | refine im_cons rfl (im_agg2 (.sli rfl) (.intss _)) ?_ | refine im_cons rfl (im_agg2 (.sli rfl) (.sls rfl)) ?_ | refine im_cons rfl (im_agg1 (.ints _)) ?_ | refine im_cons rfl (im_agg1 (.sli rfl)) ?_ | refine im_cons rfl (im_agg1 (.intss _)) ?_ | refine im_cons rfl (im_agg1 (.sls rfl)) ?_ | refine im_cons rfl (im_agg1 (.nil)) ?_ | refine im_cons rfl (im_agg1 (.nils)) ?_)); done))
  | omega
  | ((first | apply w_lss | apply w_leq | apply w_gtr | apply w_geq | apply w_eql | apply w_neq | apply w_add | apply w_sub | apply w_mul | apply w_idx | apply w_ld | apply w_fld | apply w_fa | apply w_extv | apply w_min | apply w_max | apply w_slhi | apply w_sllo | apply w_bs2); iterate 3 exact rfl)
  | ((first | apply w_eqlb | apply w_neqb | apply w_idxs | apply w_lds | apply w_ext); iterate 3 exact rfl)
  | (apply w_rem; exact rfl; exact rfl; exact rfl; (focus (omega; done)); (focus (omega; done)))
  | (apply w_quo; exact rfl; exact rfl; exact rfl; (focus (omega; done)); (focus (omega; done)))
  | (apply w_remT; exact rfl; exact rfl; exact rfl)
  | (apply w_quoT; exact rfl; exact rfl; exact rfl)
  | ((first | apply w_not | apply w_neg | apply w_conv | apply w_build0 | apply w_bs1 | apply w_boxa); iterate 2 exact rfl)
  | (apply w_idxo; exact rfl; exact rfl; (first | exact .sli rfl | exact .sls rfl | exact .slr rfl); exact rfl)
  | ((first | apply w_idxr | apply w_ldr); iterate 4 exact rfl)
  | (apply w_ldo; iterate 4 exact rfl)
  | (apply w_ldls; iterate 4 exact rfl)
  | (apply w_ldrp; iterate 4 exact rfl)
  | (apply w_ldb; iterate 5 exact rfl)
  | (apply w_ldst; iterate 5 exact rfl)
  | ((first | apply w_sllh | apply w_stbi); iterate 4 exact rfl)
  | ((first | apply w_oslo | apply w_oshi | apply w_stbii); iterate 4 exact rfl)
  | (apply w_copy; exact rfl; (first | exact .own rfl rfl rfl | exact .osub); exact rfl; rotate_left 1; exact rfl; (first | exact .ints _ | exact .sli rfl | exact .orow rfl | exact .nil | exact .osub rfl (by simp; omega)))
  | (apply w_build1; exact rfl; exact rfl; (first | exact one_val rfl rfl | exact one_ints | exact one_intss | exact one_own rfl True.intro))
  | (apply w_build2; exact rfl; exact rfl; exact rfl; (first | exact one_val rfl rfl | exact one_ints | exact one_intss | exact one_own rfl True.intro); (first | exact one_val rfl rfl | exact one_ints | exact one_intss | exact one_own rfl True.intro))
  | (apply w_bs0; iterate 1 exact rfl)
  | (apply w_appn; exact rfl; exact rfl; (first | exact .ints _ | exact .sli rfl | exact .orow rfl | exact .nil | exact .osub rfl (by simp; omega)); exact rfl)
  | (apply w_app; exact rfl; exact rfl; exact rfl; exact rfl; (first | exact .ints _ | exact .sli rfl | exact .orow rfl | exact .nil | exact .osub rfl (by simp; omega)); rotate_left 1; simp only [Env.mp, List.map_cons, List.map_nil, List.set_cons_zero, List.set_cons_succ, AV.kill, AV.kill1, AO.kill, AV.noRow, AV.noRow1, AO.via, reduceIte, Nat.reduceEqDiff, Nat.reduceLT, Env.up, Nat.zero_ne_one, Nat.one_ne_zero, Nat.reduceAdd, List.cons_append, List.nil_append]; rotate_left 1)
  | (apply w_alst; iterate 2 exact rfl)
  | (apply w_alone; iterate 3 exact rfl)
  | (apply w_mki; exact rfl; exact rfl; rotate_left 3; exact rfl; rotate_left 1)
  | (apply w_mkr; exact rfl; exact rfl; rotate_left 3; exact rfl; rotate_left 1)
  | (apply w_strow; exact rfl; exact rfl; rotate_left 1; exact rfl; exact rfl; exact rfl; exact rfl; simp only [Env.mp, List.map_cons, List.map_nil, List.set_cons_zero, List.set_cons_succ, AV.kill, AV.kill1, AO.kill, AV.noRow, AV.noRow1, AO.via, reduceIte, Nat.reduceEqDiff, Nat.reduceLT, Env.up, Nat.zero_ne_one, Nat.one_ne_zero, Nat.reduceAdd, List.cons_append, List.nil_append]; rotate_left 1)
  | (apply w_sti; exact rfl; exact rfl; rotate_left 1; exact rfl; rotate_left 2)
  | (apply w_stst; iterate 5 exact rfl)
  | (apply w_stbv; iterate 6 exact rfl)
  | (apply w_stbo; exact rfl; exact rfl; exact rfl; exact rfl; exact rfl; exact True.intro)
  | ((apply AOps.splitB; exact rfl; exact rfl) <;> intro h)
  | apply AllOf.nil
  | (apply AllOf.cons; exact rfl)
  | (apply AAny.take; exact rfl; exact rfl; kernel_rfl; kernel_rfl)
  | (apply AAny.all; exact rfl)
  | (apply AAny.done; exact rfl)
  | (apply inI_of <;> omega)
  | omega
  | (simp <;> omega))
      all_goals refine .bool Try.results25 rfl (isPo_false (i := i) hi ?_)
      all_goals intro hz
      all_goals unfold PR at hz
      all_goals omega
  · repeat' (first
  | (apply AOps.nil; try simp only [List.nil_append, List.cons_append, List.set_cons_zero, List.set_cons_succ, List.length_cons, List.length_nil, Nat.reduceAdd, AV.sh, AV.sh1, AV.sh0, AO.sh, List.map_cons, List.map_nil, Nat.zero_add, Nat.add_zero, setAll])
  | ((apply AOps.splitP; exact rfl; exact rfl) <;> intro h)
  | ((apply AOps.splitN; exact rfl; exact rfl) <;> intro h)
  | (apply w_move; exact rfl; exact rfl)
  | (apply w_assign; exact rfl; exact rfl)
  | apply AWp.seq
  | apply AWp.region
  | ((apply AWp.condP; exact rfl) <;> intro h)
  | ((apply AWp.condN; exact rfl) <;> intro h)
  | (apply AWp.condT; exact rfl)
  | (apply AWp.condF; exact rfl)
  | ((apply AWp.condB; exact rfl) <;> intro h)
  | apply AWp.block
  | apply AWp.ret
  | apply AWp.exit
  | apply AWp.skip
  | (apply AWp.regionQ; kernel_rfl; kernel_rfl)
  | (apply if_pos'; exact rfl)
  | (apply if_neg'; decide)
  | (apply w_skip; exact rfl)
  | (apply w_pickT; exact rfl; exact rfl; exact rfl)
  | (apply w_pickF; exact rfl; exact rfl; exact rfl)
  | (apply w_len; exact rfl; exact rfl; first | exact .ints _ | exact .intss _ | exact .sli rfl | exact .sls rfl | exact .slr rfl | exact .orow rfl | exact .nil)
  | omega
  | ((first | apply w_lss | apply w_leq | apply w_gtr | apply w_geq | apply w_eql | apply w_neq | apply w_add | apply w_sub | apply w_mul | apply w_idx | apply w_ld | apply w_fld | apply w_fa | apply w_extv | apply w_min | apply w_max | apply w_slhi | apply w_sllo | apply w_bs2); iterate 3 exact rfl)
  | ((first | apply w_eqlb | apply w_neqb | apply w_idxs | apply w_lds | apply w_ext); iterate 3 exact rfl)
  | (apply w_rem; exact rfl; exact rfl; exact rfl; (focus (omega; done)); (focus (omega; done)))
  | (apply w_quo; exact rfl; exact rfl; exact rfl; (focus (omega; done)); (focus (omega; done)))
  | (apply w_remT; exact rfl; exact rfl; exact rfl)
  | (apply w_quoT; exact rfl; exact rfl; exact rfl)
  | ((first | apply w_not | apply w_neg | apply w_conv | apply w_build0 | apply w_bs1 | apply w_boxa); iterate 2 exact rfl)
  | (apply w_idxo; exact rfl; exact rfl; (first | exact .sli rfl | exact .sls rfl | exact .slr rfl); exact rfl)
  | ((first | apply w_idxr | apply w_ldr); iterate 4 exact rfl)
  | (apply w_ldo; iterate 4 exact rfl)
  | (apply w_ldls; iterate 4 exact rfl)
  | (apply w_ldrp; iterate 4 exact rfl)
  | (apply w_ldb; iterate 5 exact rfl)
  | (apply w_ldst; iterate 5 exact rfl)
  | ((first | apply w_sllh | apply w_stbi); iterate 4 exact rfl)
  | ((first | apply w_oslo | apply w_oshi | apply w_stbii); iterate 4 exact rfl)
  | (apply w_copy; exact rfl; (first | exact .own rfl rfl rfl | exact .osub); exact rfl; rotate_left 1; exact rfl; (first | exact .ints _ | exact .sli rfl | exact .orow rfl | exact .nil | exact .osub rfl (by simp; omega)))
  | (apply w_build1; exact rfl; exact rfl; (first | exact one_val rfl rfl | exact one_ints | exact one_intss | exact one_own rfl True.intro))
  | (apply w_build2; exact rfl; exact rfl; exact rfl; (first | exact one_val rfl rfl | exact one_ints | exact one_intss | exact one_own rfl True.intro); (first | exact one_val rfl rfl | exact one_ints | exact one_intss | exact one_own rfl True.intro))
  | (apply w_bs0; iterate 1 exact rfl)
  | (apply w_appn; exact rfl; exact rfl; (first | exact .ints _ | exact .sli rfl | exact .orow rfl | exact .nil | exact .osub rfl (by simp; omega)); exact rfl)
  | (apply w_app; exact rfl; exact rfl; exact rfl; exact rfl; (first | exact .ints _ | exact .sli rfl | exact .orow rfl | exact .nil | exact .osub rfl (by simp; omega)); rotate_left 1; simp only [Env.mp, List.map_cons, List.map_nil, List.set_cons_zero, List.set_cons_succ, AV.kill, AV.kill1, AO.kill, AV.noRow, AV.noRow1, AO.via, reduceIte, Nat.reduceEqDiff, Nat.reduceLT, Env.up, Nat.zero_ne_one, Nat.one_ne_zero, Nat.reduceAdd, List.cons_append, List.nil_append]; rotate_left 1)
  | (apply w_alst; iterate 2 exact rfl)
  | (apply w_alone; iterate 3 exact rfl)
  | (apply w_mki; exact rfl; exact rfl; rotate_left 3; exact rfl; rotate_left 1)
  | (apply w_mkr; exact rfl; exact rfl; rotate_left 3; exact rfl; rotate_left 1)
  | (apply w_strow; exact rfl; exact rfl; rotate_left 1; exact rfl; exact rfl; exact rfl; exact rfl; simp only [Env.mp, List.map_cons, List.map_nil, List.set_cons_zero, List.set_cons_succ, AV.kill, AV.kill1, AO.kill, AV.noRow, AV.noRow1, AO.via, reduceIte, Nat.reduceEqDiff, Nat.reduceLT, Env.up, Nat.zero_ne_one, Nat.one_ne_zero, Nat.reduceAdd, List.cons_append, List.nil_append]; rotate_left 1)
  | (apply w_sti; exact rfl; exact rfl; rotate_left 1; exact rfl; rotate_left 2)
  | (apply w_stst; iterate 5 exact rfl)
  | (apply w_stbv; iterate 6 exact rfl)
  | (apply w_stbo; exact rfl; exact rfl; exact rfl; exact rfl; exact rfl; exact True.intro)
  | ((apply AOps.splitB; exact rfl; exact rfl) <;> intro h)
  | apply AllOf.nil
  | (apply AllOf.cons; exact rfl)
  | (apply AAny.take; exact rfl; exact rfl; kernel_rfl; kernel_rfl)
  | (apply AAny.all; exact rfl)
  | (apply AAny.done; exact rfl)
  | (apply inI_of <;> omega)
  | omega
  | (simp <;> omega))
    have e : i = xss.length := by omega
    subst e
    refine .bool Try.results25 rfl ?_
    rw [isPo_all h1, eq_comm]
    simp
    omega

/-! ### Orders -/
end Go.Proofs.Ytkickbnahajpoaa
/-
  slices.SortFunc at slices of slices, by the library's own contract laid at this dump in plain words. No condition.
-/
namespace Go.Proofs.Ytkickbnahajpoaa
open Go Go.RowKit Go.Shelf
def laysSort_ren : Go.Shelf.Ren := ⟨fun | 6 => 48 | 15 => 55 | 14 => 54 | 28 => 64 | 29 => 65 | 20 => 56 | 21 => 57 | 22 => 58 | 23 => 59 | 24 => 60 | 25 => 61 | 26 => 62 | 27 => 63 | 46 => 66 | 47 => 67 | 48 => 68 | 49 => 69 | 50 => 70 | 57 => 71 | n => n, fun | 22 => 22 | 24 => 52 | 25 => 67 | 3 => 3 | 39 => 74 | 0 => 0 | 53 => 84 | 55 => 86 | 4 => 4 | 46 => 77 | 45 => 76 | 50 => 81 | 5 => 5 | 9 => 9 | 66 => 87 | 70 => 91 | 76 => 93 | 77 => 94 | n => n, fun | n => n⟩
theorem laysSort : Go.Proofs.SlLaysF.n6 Try.prog laysSort_ren := {
  mixed := by kernel_rfl
  f6 := ⟨Try.f48.name, by decide, Try.func48.trans (congrArg some (by kernel_rfl))⟩
  f14 := ⟨Try.f54.name, by decide, Try.func54.trans (congrArg some (by kernel_rfl))⟩
  f15 := Try.func55.trans (congrArg some (by kernel_rfl))
  f20 := ⟨Try.f56.name, by decide, Try.func56.trans (congrArg some (by kernel_rfl))⟩
  f21 := ⟨Try.f57.name, by decide, Try.func57.trans (congrArg some (by kernel_rfl))⟩
  f22 := ⟨Try.f58.name, by decide, Try.func58.trans (congrArg some (by kernel_rfl))⟩
  f23 := ⟨Try.f59.name, by decide, Try.func59.trans (congrArg some (by kernel_rfl))⟩
  f24 := ⟨Try.f60.name, by decide, Try.func60.trans (congrArg some (by kernel_rfl))⟩
  f25 := ⟨Try.f61.name, by decide, Try.func61.trans (congrArg some (by kernel_rfl))⟩
  f26 := ⟨Try.f62.name, by decide, Try.func62.trans (congrArg some (by kernel_rfl))⟩
  f27 := ⟨Try.f63.name, by decide, Try.func63.trans (congrArg some (by kernel_rfl))⟩
  f28 := Try.func64.trans (congrArg some (by kernel_rfl))
  f29 := Try.func65.trans (congrArg some (by kernel_rfl))
  f46 := ⟨Try.f66.name, by decide, Try.func66.trans (congrArg some (by kernel_rfl))⟩
  f47 := Try.func67.trans (congrArg some (by kernel_rfl))
  f48 := Try.func68.trans (congrArg some (by kernel_rfl))
  f49 := ⟨Try.f69.name, by decide, Try.func69.trans (congrArg some (by kernel_rfl))⟩
  f50 := ⟨Try.f70.name, by decide, Try.func70.trans (congrArg some (by kernel_rfl))⟩
  f57 := ⟨Try.f71.name, by decide, Try.func71.trans (congrArg some (by kernel_rfl))⟩
  t0 := Try.underlying0
  a0 := Try.isAgg0
  z0 := Try.sizeOf0
  v0 := Try.zeroValue0
  t3 := Try.underlying3
  a3 := Try.isAgg3
  z3 := Try.sizeOf3
  v3 := Try.zeroValue3
  t4 := Try.underlying4
  a4 := Try.isAgg4
  z4 := Try.sizeOf4
  v4 := Try.zeroValue4
  t5 := Try.underlying5
  a5 := Try.isAgg5
  z5 := Try.sizeOf5
  v5 := Try.zeroValue5
  t9 := Try.underlying9
  a9 := Try.isAgg9
  z9 := Try.sizeOf9
  v9 := Try.zeroValue9
  t22 := Try.underlying22
  a22 := Try.isAgg22
  z22 := Try.sizeOf22
  v22 := Try.zeroValue22
  a24 := Try.isAgg52
  z24 := Try.sizeOf52
  t25 := Try.underlying67
  a25 := Try.isAgg67
  z25 := Try.sizeOf67
  v25 := Try.zeroValue67
  t39 := Try.underlying74
  a39 := Try.isAgg74
  z39 := Try.sizeOf74
  v39 := Try.zeroValue74
  t45 := Try.underlying76
  a45 := Try.isAgg76
  z45 := Try.sizeOf76
  v45 := Try.zeroValue76
  t46 := Try.underlying77
  a46 := Try.isAgg77
  z46 := Try.sizeOf77
  v46 := Try.zeroValue77
  t50 := Try.underlying81
  a50 := Try.isAgg81
  z50 := Try.sizeOf81
  v50 := Try.zeroValue81
  t53 := Try.underlying84
  a53 := Try.isAgg84
  z53 := Try.sizeOf84
  v53 := Try.zeroValue84
  t55 := Try.underlying86
  a55 := Try.isAgg86
  z55 := Try.sizeOf86
  v55 := Try.zeroValue86
  t66 := Try.underlying87
  a66 := Try.isAgg87
  z66 := Try.sizeOf87
  v66 := Try.zeroValue87
  t70 := Try.underlying91
  a70 := Try.isAgg91
  z70 := Try.sizeOf91
  v70 := Try.zeroValue91
  t76 := Try.underlying93
  a76 := Try.isAgg93
  z76 := Try.sizeOf93
  v76 := Try.zeroValue93
  t77 := Try.underlying94
  a77 := Try.isAgg94
  z77 := Try.sizeOf94
  v77 := Try.zeroValue94 }
open Go.RowKit Go.Lib Go.Sort in
theorem slices_SortFunc {α : Type} [Inhabited α] (enc : α → Value) (h1 : OneCell enc) (cf : α → α → Int) (hO : SWO (ltOf cf)) (g : Nat) (cb : Array Value) (blk off cap : Nat) (d : Array α) (w : World) (eg : ∀ args w, (callFunc g args).run Try.prog w = .ok (.enter g args) w) (hcmp : CmpLays1 Try.prog g cb enc cf blk off d.size w) (hH : Holds enc w blk off d) (hblk : blk < w.heap.size) (hsz : d.size < 4611686018427387904) :
    Calls Try.prog 48 #[.slice (some ⟨blk, off, none⟩) d.size cap, .func (.func g) #[] cb] w fun e w' =>
      e = .returned (.tuple #[]) ∧ ∃ d' n os, PermIn 0 d.size d d' ∧ SortedIn (ltOf cf) 0 d.size d' ∧ w' = sortWorld enc w blk off n d' os := Any.slices_SortFunc laysSort enc h1 cf hO g cb blk off cap d w eg hcmp hH hblk hsz
end Go.Proofs.Ytkickbnahajpoaa
/-
  slices.SortFunc at own slices of rows, by any function that compares rows. No condition.
-/
namespace Go.Proofs.Ytkickbnahajpoaa
open Go Go.RowKit Go.Sort

/-- What the sort asks of a function that compares rows. -/
def CmpOk (G : FuncId) (cmp : List Int → List Int → Int) (R : List Int → Prop) : Prop :=
  HasBody Try.prog G ∧ (∀ (w : World) (v1 v2 : Value) (xs ys : List Int), IntsAt w (fun _ => True) v1 xs → IntsAt w (fun _ => True) v2 ys → R xs → R ys →
    Calls Try.prog G #[v1, v2] w fun e w' => e = .returned (.int .i64 (cmp xs ys)) ∧ ∃ q os', w' = grow (w.drewN q) os') ∧
  (∀ x, R x → ¬ cmp x x < 0) ∧ (∀ x y z, R x → R y → R z → cmp x y < 0 → cmp y z < 0 → cmp x z < 0) ∧ ∀ x y z, R x → R y → R z → ¬ cmp x y < 0 → ¬ cmp y z < 0 → ¬ cmp x z < 0

section
variable (enc : Nat → Value) (w : World) (blk m : Nat) (dk : Array Nat) (oss : Array Obj)
theorem sw_size : (sortWorld enc w blk 0 m dk oss).heap.size = w.heap.size + oss.size := by
  simp [sortWorld, grow, putRow, mapBlock, Go.Sort.ahead]
theorem sw_other {b : Nat} (hb : b ≠ blk) (hl : b < w.heap.size) : (sortWorld enc w blk 0 m dk oss).heap[b]? = w.heap[b]? := by
  simp only [sortWorld, grow, putRow, mapBlock, Go.Sort.ahead]
  rw [Array.getElem?_append_left (by simpa using hl), Array.getElem?_modify, if_neg (fun e => hb e.symm)]
theorem sw_row {cur : Array Value} {e : TypeId} {fr : Nat × Nat} (h : w.heap[blk]? = some (.cells cur e fr)) : (sortWorld enc w blk 0 m dk oss).heap[blk]? = some (.cells (putCells enc 0 dk cur) e fr) := by
  have hl := (Array.getElem?_eq_some_iff.1 h).1
  simp only [sortWorld, grow, putRow, mapBlock, Go.Sort.ahead]
  rw [Array.getElem?_append_left (by simpa using hl), Array.getElem?_modify, if_pos rfl, h]
  rfl
end

theorem take_put (enc : Nat → Value) (d : Array Nat) (cur : Array Value) (h : d.size ≤ cur.size) : (putCells enc 0 d cur).toList.take d.size = d.toList.map enc := by
  apply List.ext_getElem?
  intro i
  rw [List.getElem?_take]
  by_cases hi : i < d.size
  · rw [if_pos hi, Array.getElem?_toList, putCells, Array.getElem?_mapIdx, Array.getElem?_eq_getElem (by omega), List.getElem?_map, Array.getElem?_toList, Array.getElem?_eq_getElem hi]
    simp only [Option.map_some, Nat.zero_le, true_and, Nat.zero_add, Nat.sub_zero, hi, if_true]
    rw [getElem!_pos d i hi]
  · rw [if_neg hi, List.getElem?_eq_none (by simp; omega)]

section
variable {env : Env} {os : List AO} {d : Option Tmp} {ty : TypeId} {pos : String} {af : Array Edge} {g : Option (Nat × Bool)}

set_option maxHeartbeats 2000000 in
theorem c_sortg {G : FuncId} {cmp : List Int → List Int → Int} {R : List Int → Prop} (hcmpok : CmpOk G cmp R) {x y : Operand} {ats : Array TypeId} {h : Nat} {e e2 : TypeId} {xss : List (List Int)} (hx : AV.ev env x = .own h) (hs : os[h]? = some (.sls e e2 xss)) (hy : AV.ev env y = .val (.func (.func G) #[] #[])) (hp : ∀ xs ∈ xss, R xs) (hn : 0 < xss.length ∧ xss.length ≤ 1048576) :
    COp Try.prog ⟨d, .call { callee := .value (.func 48), args := #[x, y], argTypes := ats }, ty, pos, af, g⟩ env os
      (fun r e' o => ∃ idx : List Nat, idx.Perm (List.range xss.length) ∧ (∀ i j : Nat, i < j → j < idx.length → ¬ cmp (xss.getD (idx.getD j 0) []) (xss.getD (idx.getD i 0) []) < 0) ∧ r = .any ∧ e' = env.mp (AV.noRow h) ∧ o = ((((os ++ [AO.sli e2 []]).map (AO.via (AV.noRow h) h)).set h (.sls e e2 (idx.map fun i => xss.getD i []))).set os.length .dead)) := by
  intro base w gs tm hr
  have hxv := hr.ev x
  rw [hx] at hxv
  have hyv := hr.evv hy
  generalize hv : Act.eval ⟨tm, []⟩ x = v at hxv
  cases hxv with
  | @own _ gh hg =>
  obtain ⟨us, bs, mb, b1, b2, b3, b4, b5, b6, b7, b8⟩ := hr.ho _ _ _ hg hs
  rcases b1.2 with ⟨_, c2⟩ | ⟨blk, cap, cur, c1, c2, c3, c4, c5, c6, c7⟩
  · omega
  have hmb : gh.v.ownBlock = some blk := by rw [c1]; rfl
  have hblk : blk ∈ mb := by
    rcases b6 with ⟨q1, _⟩ | ⟨q1, q2⟩
    · rw [hmb] at q1; cases q1
    · rw [hmb] at q1; cases q1; simp [q2]
  have hmb1 : ∀ b ∈ mb, b = blk := by
    rcases b6 with ⟨q1, _⟩ | ⟨q1, q2⟩
    · rw [hmb] at q1; cases q1
    · rw [hmb] at q1; cases q1; intro b hb; rw [q2] at hb; simpa using hb
  have a8' : (mb ++ bs.flatten).Nodup := by rw [← b7]; exact b8
  have hlt : blk < w.heap.size := (Array.getElem?_eq_some_iff.1 c3).1
  have hbl0 : ∀ b, b ∈ gh.bl → b < w.heap.size := fun b hb => (hr.hn _ _ _ hg hs (by simp) b hb).2
  have rowblk : ∀ (j : Nat) u, us[j]? = some u → ∀ c, u.ownBlock = some c → c ∈ bs.flatten := by
    intro j u hj c hc
    have hjb : j < bs.length := by
      have := (List.getElem?_eq_some_iff.1 hj).1
      omega
    exact List.mem_flatten.2 ⟨bs.getD j [], by rw [List.getD_eq_getElem?_getD, List.getElem?_eq_getElem hjb]; simp, by rw [← (b5 j u hj).2.2, hc]; simp⟩
  have flne : ∀ c, c ∈ bs.flatten → c ≠ blk ∧ c < w.heap.size := fun c hc => ⟨fun e => (List.nodup_append.1 a8').2.2 blk hblk c hc e.symm, hbl0 c (by rw [b7]; exact List.mem_append.2 (.inr hc))⟩
  -- the rows by their numbers
  let n := xss.length
  let ix : Nat → Nat := fun i => if i < n then i else 0
  have hix : ∀ i, ix i < n := fun i => by show (if i < n then i else 0) < n; split <;> omega
  let enc : Nat → Value := fun i => us.getD (ix i) undef
  let row : Nat → List Int := fun i => xss.getD (ix i) []
  let cf : Nat → Nat → Int := fun i j => cmp (row i) (row j)
  have hus : ∀ i, us[ix i]? = some (enc i) := fun i => by
    have : ix i < us.length := by rw [b2]; exact hix i
    show us[ix i]? = some (us.getD (ix i) undef)
    rw [List.getD_eq_getElem?_getD, List.getElem?_eq_getElem this]; rfl
  have hrow : ∀ i, R (row i) := fun i => by
    have : ix i < xss.length := hix i
    refine hp _ ?_
    show xss.getD (ix i) [] ∈ xss
    rw [List.getD_eq_getElem?_getD, List.getElem?_eq_getElem this]
    exact List.getElem_mem this
  have henc : ∀ i, ∃ c cp, enc i = .slice c (row i).length cp := fun i => by
    obtain ⟨q1, q2, q3⟩ := b5 _ _ (hus i)
    obtain ⟨ua, uc, eu⟩ := ownsRow_slice q1
    exact ⟨ua, uc, eu⟩
  have h1 : OneCell enc := fun i => by obtain ⟨c, cp, q⟩ := henc i; rw [q]; rfl
  have hlt' : ∀ i j, ltOf cf i j = true ↔ cmp (row i) (row j) < 0 := fun i j => by
    unfold ltOf
    rw [decide_eq_true_iff]
  have hlf : ∀ i j, ltOf cf i j = false ↔ ¬ cmp (row i) (row j) < 0 := fun i j => by
    rw [← hlt', Bool.not_eq_true]
  have hO : SWO (ltOf cf) := by
    refine ⟨fun i => ?_, fun i j k p q => ?_, fun i j k p q => ?_⟩
    · rw [hlf]; exact hcmpok.2.2.1 _ (hrow i)
    · rw [hlt'] at *; exact hcmpok.2.2.2.1 _ _ _ (hrow i) (hrow j) (hrow k) p q
    · rw [hlf] at *; exact hcmpok.2.2.2.2 _ _ _ (hrow i) (hrow j) (hrow k) p q
  have hbd : HasBody Try.prog 48 := ⟨_, _, Try.func48, by kernel_rfl, rfl⟩
  have hbc := hcmpok.1
  have hsz : (Array.range n).size = us.length := by simp [n, b2]
  have hcmp : CmpLays1 Try.prog G #[] enc cf blk 0 (Array.range n).size w := by
    intro m oss dk hdk i j
    have hat : ∀ i, IntsAt (sortWorld enc w blk 0 m dk oss) (fun _ => True) (enc i) (row i) := fun i => by
      obtain ⟨q1, q2, q3⟩ := b5 _ _ (hus i)
      refine ⟨RowAt.of_owns (base := base) (e := e2) (ownsRow_of_block q1 fun c hc => ?_), q2⟩
      have := flne c (rowblk _ _ (hus i) c hc)
      exact sw_other enc w blk m dk oss this.1 this.2
    exact hcmpok.2.1 _ _ _ _ _ (hat i) (hat j) (hrow i) (hrow j)
  have hH : Holds enc w blk 0 (Array.range n) := by
    intro j hj
    have hj' : j < n := by simpa using hj
    obtain ⟨b', cp, r1, r2, r3, r4⟩ := own_slice b1 (i := j) (by rw [b2]; exact hj')
    have : b' = blk := by rw [hmb] at r2; exact (Option.some.inj r2).symm
    subst this
    rw [Nat.zero_add]
    refine ⟨?_, r4⟩
    have e1 : (Array.range n)[j]! = j := by rw [getElem!_pos _ j (by simpa using hj')]; simp
    have e2 : ix j = j := if_pos hj'
    rw [r3, e1, ← hus j, e2]
  refine ⟨_, _, run_call hbd [x, y] ats _ rfl w, ?_⟩
  have hcall := slices_SortFunc enc h1 cf hO G #[] blk 0 cap (Array.range n) w (fun args w => hbc.run args w) hcmp hH hlt (by simp [n]; omega)
  have eargs : ([x, y].map (Act.eval ⟨tm, []⟩)).toArray = #[.slice (some ⟨blk, 0, none⟩) (Array.range n).size cap, .func (.func G) #[] #[]] := by
    simp only [List.map_cons, List.map_nil, hv, hyv, c1, hsz]
  rw [eargs]
  refine hcall.mono ?_
  rintro e' w' ⟨rfl, d', m, oss, ⟨p1, p2, p3⟩, hsort, rfl⟩
  have hdl : d'.size = n := by simpa using p1
  have hperm : d'.toList.Perm (List.range n) := by
    have e1 : (d'.extract 0 (Array.range n).size).toList = d'.toList := by simp; rw [List.take_of_length_le (by simp [hdl])]
    have e2 : ((Array.range n).extract 0 (Array.range n).size).toList = List.range n := by simp
    rw [e1, e2] at p3
    exact p3
  let idx := d'.toList
  have hil : idx.length = n := by simpa [idx] using hdl
  have hin : ∀ i ∈ idx, i < n := fun i hi => List.mem_range.1 (hperm.mem_iff.1 hi)
  have hind : idx.Nodup := hperm.nodup_iff.2 List.nodup_range
  let cs : List (List Nat) := idx.map fun i => bs.getD i []
  let us' : List Value := idx.map enc
  have hus' : ∀ i ∈ idx, us[i]? = some (enc i) := fun i hi => by
    have := hus i
    have e2 : ix i = i := if_pos (hin i hi)
    rwa [e2] at this
  let g' : Gh := ⟨gh.v, gh.b, mb ++ cs.flatten, us'⟩
  have hcs : ∀ b, b ∈ cs.flatten → b ∈ bs.flatten := by
    intro b hb
    obtain ⟨l, hl, hbl⟩ := List.mem_flatten.1 hb
    obtain ⟨i, hi, rfl⟩ := List.mem_map.1 hl
    have hi2 : i < bs.length := by rw [b3]; exact hin i hi
    rw [List.getD_eq_getElem?_getD, List.getElem?_eq_getElem hi2] at hbl
    exact List.mem_flatten.2 ⟨_, List.getElem_mem hi2, hbl⟩
  -- a dummy object, to be taken in
  let gd : Gh := ⟨.slice none 0 0, 0, [], []⟩
  have hr1 : Rel base w (gs ++ [gd]) env (os ++ [.sli e2 []]) tm := hr.new (Below.refl _ _) (.sli e2 []) gd (fun _ b hb => by simp [gd] at hb) ⟨World.ownsRow_nil w base e2 1, fun x hx => by simp at hx, .inl ⟨rfl, rfl⟩⟩
  have hgl : h < gs.length := (List.getElem?_eq_some_iff.1 hg).1
  have hol : h < os.length := (List.getElem?_eq_some_iff.1 hs).1
  have hg1 : (gs ++ [gd])[h]? = some gh := by rw [List.getElem?_append_left hgl]; exact hg
  have hs1 : (os ++ [AO.sli e2 []])[h]? = some (.sls e e2 xss) := by rw [List.getElem?_append_left hol]; exact hs
  have hgd : (gs ++ [gd])[os.length]? = some gd := by rw [← hr.hl]; simp
  have hod : (os ++ [AO.sli e2 []])[os.length]? = some (.sli e2 []) := by simp
  have sv : SameV h (gs ++ [gd]) ((gs ++ [gd]).set h g') := by
    refine ⟨fun j z hj hz => ?_, fun z hz => ⟨g', ?_, ?_, ?_⟩⟩
    · rw [List.getElem?_set, if_neg (fun e => hj e.symm)]; exact hz
    · rw [List.getElem?_set, if_pos rfl, if_pos (by simp; omega)]
    · rw [hg1] at hz; cases hz; rfl
    · rw [hg1] at hz; cases hz; rfl
  have hkeep : ∀ b, b < w.heap.size → b ≠ blk → (sortWorld enc w blk 0 m d' oss).heap[b]? = w.heap[b]? := fun b hb hne => sw_other enc w blk m d' oss hne hb
  have hblkbl : blk ∈ gh.bl := by rw [b7]; exact List.mem_append.2 (.inl hblk)
  refine ⟨.tuple #[], .any, _, _, (gs ++ [gd]).set h g', rfl, ⟨idx, hperm, ?_, rfl, rfl, rfl⟩, hr1.absorb hg1 hs1 trivial hgd hod trivial (by omega) g' _ (AV.noRow h) rfl (fun b hb hn => hkeep b hb fun e => hn (by rw [e]; exact hblkbl)) (by rw [sw_size]; omega) ?_ (fun kp hv => hv.noRow kp sv) ?_, .any _, ?_⟩
  · intro i j hij hj
    have hj2 : j < d'.size := by rw [hdl, ← hil]; exact hj
    have hs2 := hsort i j (Nat.zero_le _) hij (by simpa using (by omega : j < n))
    rw [hlf, getElem!_pos d' j hj2, getElem!_pos d' i (by omega)] at hs2
    have q : ∀ a (ha : a < d'.size), row d'[a] = xss.getD (idx.getD a 0) [] := fun a ha => by
      have e3 : idx.getD a 0 = d'[a] := by
        show d'.toList.getD a 0 = _
        rw [List.getD_eq_getElem?_getD, Array.getElem?_toList, Array.getElem?_eq_getElem ha]; rfl
      have e4 : d'[a] < n := hin _ (by show d'[a] ∈ d'.toList; simp)
      rw [e3]
      show xss.getD (ix d'[a]) [] = _
      rw [show ix d'[a] = d'[a] from if_pos e4]
    rw [q j hj2, q i (by omega)] at hs2
    exact hs2
  · intro b hb
    have hbb : b ∈ gh.bl := by
      rw [b7]
      rcases List.mem_append.1 hb with hb | hb
      · exact List.mem_append.2 (.inl hb)
      · exact List.mem_append.2 (.inr (hcs b hb))
    refine ⟨.inl hbb, ?_⟩
    rw [sw_size]
    have := hbl0 b hbb
    omega
  · intro kp
    refine ⟨us', cs, mb, ?_, by simp [us'], by simp [cs], rfl, fun j u hj => ?_, b6, rfl, ?_⟩
    · refine ⟨by simp, .inr ⟨blk, cap, _, ?_, c2, sw_row enc w blk m d' oss c3, ?_, c5, ?_, ?_⟩⟩
      · show gh.v = _
        rw [c1]
        have : us'.length = us.length := by simp [us', hil, b2, n]
        rw [this]
      · have : us'.length = us.length := by simp [us', hil, b2, n]
        omega
      · simpa [putCells] using c6
      · have : us'.length * 1 = d'.size := by simp [us', hil, hdl]
        rw [this]
        exact take_put enc d' cur (by rw [c6, hdl]; omega)
    · obtain ⟨i, hi, rfl⟩ : ∃ i, idx[j]? = some i ∧ enc i = u := by
        rw [List.getElem?_map] at hj
        cases hjx : idx[j]? with
        | none => rw [hjx] at hj; cases hj
        | some i => rw [hjx] at hj; exact ⟨i, rfl, Option.some.inj hj⟩
      have him := List.mem_of_getElem? hi
      have g1 : (idx.map fun i => xss.getD i []).getD j [] = xss.getD i [] := by
        rw [List.getD_eq_getElem?_getD, List.getElem?_map, hi]; rfl
      have g2 : cs.getD j [] = bs.getD i [] := by
        show (idx.map fun i => bs.getD i []).getD j [] = _
        rw [List.getD_eq_getElem?_getD, List.getElem?_map, hi]; rfl
      obtain ⟨q1, q2, q3⟩ := b5 i _ (hus' i him)
      rw [g1, g2]
      refine ⟨ownsRow_of_block q1 fun c hc => ?_, q2, q3⟩
      have hcf := rowblk i _ (hus' i him) c hc
      exact hkeep c (flne c hcf).2 (flne c hcf).1
    · show (mb ++ cs.flatten).Nodup
      rw [List.nodup_append] at a8' ⊢
      refine ⟨a8'.1, nodup_sel a8'.2.1 hind (fun i hi => by rw [b3]; exact hin i hi), fun a ha b hb e => a8'.2.2 a ha b (hcs b hb) e⟩
  · refine ⟨rfl, rfl, rfl, by rw [sw_size]; omega, fun b hb => hkeep b (by have := hr.hb; omega) fun e => ?_⟩
    omega
end

section
variable {env : Env} {os : List AO} {d : Tmp} {ty : TypeId} {pos : String} {af : Array Edge} {l rest : List Oper} {K : APost}
theorem w_sortg {G : FuncId} {cmp : List Int → List Int → Int} {R : List Int → Prop} (hcmpok : CmpOk G cmp R) {x y : Operand} {ats : Array TypeId} {h : Nat} {e e2 : TypeId} {xss : List (List Int)} (hp : ∀ xs ∈ xss, R xs) (hn : 0 < xss.length ∧ xss.length ≤ 1048576) (hx : evo env x = some (.own h)) (hs : os[h]? = some (.sls e e2 xss)) (hy : evo env y = some (.val (.func (.func G) #[] #[])))
    (h' : ∀ idx : List Nat, idx.Perm (List.range xss.length) → (∀ i j : Nat, i < j → j < idx.length → ¬ cmp (xss.getD (idx.getD j 0) []) (xss.getD (idx.getD i 0) []) < 0) → AOps Try.prog .seq l rest K (Env.up (env.mp (AV.noRow h)) d .any) ((((os ++ [AO.sli e2 []]).map (AO.via (AV.noRow h) h)).set h (.sls e e2 (idx.map fun i => xss.getD i []))).set os.length .dead)) :
    AOps Try.prog .seq l (⟨some d, .call { callee := .value (.func 48), args := #[x, y], argTypes := ats }, ty, pos, af, none⟩ :: rest) K env os :=
  AOps.ca (c_sortg hcmpok (ev_of hx) hs (ev_of hy) hp hn) fun r e o ⟨idx, h1, h2, h3, h4, h5⟩ => by subst h3; subst h4; subst h5; exact h' idx h1 h2
end
end Go.Proofs.Ytkickbnahajpoaa
/-
  The comparison of terms that the sort is handed, walked by the kit's own steps. No condition but a bound on the exponents.
-/
namespace Go.Proofs.Ytkickbnahajpoaa
open Go Go.RowKit

/-- Terms by their degrees, and then by their first exponents. -/
def cmpW (x y : List Int) : Int := if Lib.compareInt (geti x 0 + geti x 1) (geti y 0 + geti y 1) = 0 then Lib.compareInt (geti x 0) (geti y 0) else Lib.compareInt (geti x 0 + geti x 1) (geti y 0 + geti y 1)

set_option maxHeartbeats 1000000 in
theorem compared_k (x y : Int) (w : World) : Calls Try.prog 53 #[.int .i64 x, .int .i64 y] w fun e w' => e = .returned (.int .i64 (Lib.compareInt x y)) ∧ w' = w := by
  go_enter Try.func53, Try.ntmps53
  go_wp2
  all_goals (go_ret; refine ⟨?_, rfl⟩; unfold Lib.compareInt; (repeat' split) <;> first | rfl | (exfalso; omega))

set_option maxHeartbeats 4000000 in
theorem compareTerms_k (b1 o1 c1 b2 o2 c2 : Nat) (x0 x1 y0 y1 : Int) (w : World) (h0 : w.cell? ⟨b1, o1, none⟩ = some (.int .i64 x0)) (h1 : w.cell? ⟨b1, o1 + 1, none⟩ = some (.int .i64 x1)) (g0 : w.cell? ⟨b2, o2, none⟩ = some (.int .i64 y0)) (g1 : w.cell? ⟨b2, o2 + 1, none⟩ = some (.int .i64 y1))
    (hx0 : 0 ≤ x0 ∧ x0 ≤ 100000) (hx1 : 0 ≤ x1 ∧ x1 ≤ 100000) (hy0 : 0 ≤ y0 ∧ y0 ≤ 100000) (hy1 : 0 ≤ y1 ∧ y1 ≤ 100000) :
    Calls Try.prog 47 #[.slice (some ⟨b1, o1, none⟩) 3 c1, .slice (some ⟨b2, o2, none⟩) 3 c2] w fun e w' =>
      e = .returned (.int .i64 (if Lib.compareInt (x0 + x1) (y0 + y1) = 0 then Lib.compareInt x0 y0 else Lib.compareInt (x0 + x1) (y0 + y1))) ∧ ∃ n, w' = w.drewN n := by
  have w1 : IntKind.i64.wrap (x0 + x1) = x0 + x1 := by rw [IntKind.wrap_i64]; omega
  have w2 : IntKind.i64.wrap (y0 + y1) = y0 + y1 := by rw [IntKind.wrap_i64]; omega
  have cc := fun w => compared_k (x0 + x1) (y0 + y1) w
  have cd := fun w => compared_k x0 y0 w
  clear hx0 hx1 hy0 hy1
  generalize Lib.compareInt (x0 + x1) (y0 + y1) = r at cc ⊢
  generalize Lib.compareInt x0 y0 = s at cd ⊢
  by_cases hr : r = 0
  · subst hr
    go_enter Try.func47, Try.ntmps47
    go_wp2_with fail
    go_quiet (first | (go_at_call 53; refine Calls.quiet_of_same (cc _)))
    go_wp2_with fail
    have k0 : (w.drewN nq).cell? ⟨b1, o1, none⟩ = some (.int .i64 x0) := h0
    have k1 : (w.drewN nq).cell? ⟨b2, o2, none⟩ = some (.int .i64 y0) := g0
    have A : Aside (∃ m, w.drewN nq = w.drewN m) := ⟨nq, rfl⟩
    generalize w.drewN nq = wq at k0 k1 A ⊢
    clear h0 h1 g0 g1
    go_quiet (first | (go_at_call 53; refine Calls.quiet_of_same (cd _)))
    go_wp2
    go_ret
    obtain ⟨m, rfl⟩ := A.out
    exact ⟨rfl, m + nq, by rw [World.drewN_drewN]⟩
  · go_enter Try.func47, Try.ntmps47
    go_wp2_with fail
    go_quiet (first | (go_at_call 53; refine Calls.quiet_of_same (cc _)))
    go_wp2
    go_ret
    exact ⟨rfl, nq, rfl⟩

/-- A term with exponents of moderate size. -/
def TB (r : List Int) : Prop := r.length = 3 ∧ (0 ≤ geti r 0 ∧ geti r 0 ≤ 100000) ∧ (0 ≤ geti r 1 ∧ geti r 1 ≤ 100000)
theorem cmpW_lt {x y : List Int} : cmpW x y < 0 ↔ (geti x 0 + geti x 1 < geti y 0 + geti y 1 ∨ (geti x 0 + geti x 1 = geti y 0 + geti y 1 ∧ geti x 0 < geti y 0)) := by
  unfold cmpW Lib.compareInt
  repeat' split
  all_goals omega
theorem term_cells {w : World} {v : Value} {xs : List Int} (h : IntsAt w (fun _ => True) v xs) (h3 : xs.length = 3) : ∃ b o c, v = .slice (some ⟨b, o, none⟩) 3 c ∧ w.cell? ⟨b, o, none⟩ = some (.int .i64 (geti xs 0)) ∧ w.cell? ⟨b, o + 1, none⟩ = some (.int .i64 (geti xs 1)) := by
  obtain ⟨⟨a, cap, rfl, e1, e2, e3⟩, _⟩ := h
  obtain ⟨b, o, rfl, _, hc⟩ := e3 (by simp; omega)
  match xs, h3 with
  | [p, q, r], _ =>
    refine ⟨b, o, cap, rfl, ?_, ?_⟩
    · have := hc 0 (.int .i64 p) rfl; simpa [geti] using this
    · have := hc 1 (.int .i64 q) rfl; simpa [geti] using this
theorem cmpW_ok : CmpOk 47 cmpW TB := by
  refine ⟨⟨_, _, Try.func47, by kernel_rfl, rfl⟩, ?_, ?_, ?_, ?_⟩
  · intro w v1 v2 xs ys h1 h2 t1 t2
    obtain ⟨b1, o1, c1, rfl, p0, p1⟩ := term_cells h1 t1.1
    obtain ⟨b2, o2, c2, rfl, q0, q1⟩ := term_cells h2 t2.1
    refine (compareTerms_k b1 o1 c1 b2 o2 c2 _ _ _ _ w p0 p1 q0 q1 t1.2.1 t1.2.2 t2.2.1 t2.2.2).mono ?_
    rintro e w' ⟨rfl, n, rfl⟩
    exact ⟨rfl, n, #[], by rw [Go.Sort.grow_empty]⟩
  · intro x _; rw [cmpW_lt]; omega
  · intro x y z _ _ _ h1 h2; rw [cmpW_lt] at *; omega
  · intro x y z _ _ _ h1 h2; rw [cmpW_lt] at *; omega
end Go.Proofs.Ytkickbnahajpoaa
/-
  Partial derivatives, and sorted lists: the plain law. No program.
-/
namespace Go.Proofs.Ytkickbnahajpoaa
open Go Go.RowKit
attribute [local irreducible] AWp AOps ResIs Ret1 QOp LOp COp AFnV AFn Imms LeE LeO
set_option maxHeartbeats 1000000
set_option linter.unusedSimpArgs false
set_option linter.unusedVariables false

theorem po_bef {ts : List (List Int)} (h : isPo ts = true) : ∀ (d i : Nat), i + d + 1 < ts.length → Bef (gets ts (i : Nat)) (gets ts ((i + d + 1 : Nat) : Int))
  | 0, i, hi => by
    have := ((isPo_of h).2 (i + 1) (by omega)).2.2.2.2 (by omega)
    rw [show (((i + 1 : Nat) : Int) - 1) = (i : Int) by omega] at this
    exact this
  | d + 1, i, hi => by
    have ih := po_bef h d i (by omega)
    have := ((isPo_of h).2 (i + (d + 1) + 1) (by omega)).2.2.2.2 (by omega)
    rw [show (((i + (d + 1) + 1 : Nat) : Int) - 1) = ((i + d + 1 : Nat) : Int) by omega] at this
    unfold Bef at *
    omega
theorem po_lt {ts : List (List Int)} (h : isPo ts = true) {i j : Nat} (hij : i < j) (hj : j < ts.length) : Bef (gets ts (i : Nat)) (gets ts (j : Nat)) := by
  have := po_bef h (j - i - 1) i (by omega)
  rwa [show i + (j - i - 1) + 1 = j by omega] at this

/-- Two orders of the same rows, the second strict. -/
theorem sorted_eq {l m : List (List Int)} (hp : l.Perm m) (hl : l.Pairwise (fun a b => ¬ cmpW b a < 0)) (hm : m.Pairwise (fun a b => cmpW a b < 0)) : l = m := by
  refine List.Perm.eq_of_pairwise (le := fun a b => ¬ cmpW b a < 0) ?_ hl (hm.imp fun {a b} h => ?_) hp
  · intro a b ha hb h1 h2
    obtain ⟨i, hi, rfl⟩ := List.mem_iff_getElem.1 (hp.mem_iff.1 ha)
    obtain ⟨j, hj, rfl⟩ := List.mem_iff_getElem.1 hb
    rw [List.pairwise_iff_getElem] at hm
    rcases Nat.lt_trichotomy i j with h | h | h
    · exact absurd (hm i j hi hj h) h2
    · subst h; rfl
    · exact absurd (hm j i hj hi h) h1
  · rw [cmpW_lt] at *; omega
theorem sorted_idx {xss : List (List Int)} {idx : List Nat} (hp : idx.Perm (List.range xss.length)) (h : ∀ i j : Nat, i < j → j < idx.length → ¬ cmpW (xss.getD (idx.getD j 0) []) (xss.getD (idx.getD i 0) []) < 0) :
    (idx.map fun i => xss.getD i []).Perm xss ∧ (idx.map fun i => xss.getD i []).Pairwise (fun a b => ¬ cmpW b a < 0) := by
  constructor
  · refine (hp.map _).trans (List.Perm.of_eq ?_)
    apply List.ext_getElem
    · simp
    · intro i h1 h2
      simp [List.getD_eq_getElem?_getD, h2]
  · rw [List.pairwise_iff_getElem]
    intro i j hi hj hij
    rw [List.length_map] at hi hj
    have := h i j hij hj
    simp only [List.getD_eq_getElem?_getD, List.getElem?_eq_getElem hi, List.getElem?_eq_getElem hj, Option.getD_some] at this
    simpa [List.getD_eq_getElem?_getD] using this
end Go.Proofs.Ytkickbnahajpoaa
/-
  Maps from pairs of integers to integers: made, read, written, walked in whatever order. No condition.
-/
namespace Go.Proofs.Ytkickbnahajpoaa
open Go Go.RowKit
open Go.ChangeMaps (setBlock)

def mkey (i j : Int) : Value := .agg #[.int .i64 i, .int .i64 j]
/-- Pairs of integers as keys. -/
class TPair (P : Program) (kt : TypeId) (e : outParam TypeId) : Prop where
  hk : P.underlying kt = some (.array 2 e)
  he : P.underlying e = some (.int .i64)
  hi : ∃ ii, P.info? e = some ii
  hs : P.cellsOf e = 1
instance {P : Program} {kt e : TypeId} [h : TArr P kt e 2] [q : TKind P e .i64] : TPair P kt e := ⟨h.und, q.und, let ⟨i, h1, _⟩ := h.elm; ⟨i, h1⟩, by obtain ⟨i, h1, h2⟩ := h.elm; simp [Program.cellsOf, h1, h2]⟩
variable {P : Program}
theorem run_part2 {kt e : TypeId} [t : TPair P kt e] (i j : Int) (w : World) : (part e #[.int .i64 i, .int .i64 j] (0 * 1)).run P w = .ok (.int .i64 i) w ∧ (part e #[.int .i64 i, .int .i64 j] (1 * 1)).run P w = .ok (.int .i64 j) w := by
  have hp : P.plainKey e = true := by simp [Program.plainKey, t.he]
  exact ⟨run_part_plain w hp rfl, run_part_plain w hp rfl⟩
theorem run_eqk {kt e : TypeId} [t : TPair P kt e] (i j a b : Int) (w : World) : (Op.equal kt (mkey i j) (mkey a b)).run P w = .ok (decide (i = a ∧ j = b)) w := by
  have pt := run_part2 (P := P) (kt := kt) (e := e)
  obtain ⟨hk, he, ⟨ii, hi⟩, hs⟩ := t
  have q : ∀ x y : Int, (Op.equalIn 9999 e (.int .i64 x) (.int .i64 y)).run P w = .ok (decide (x = y)) w := fun x y => by
    rw [show (9999 : Nat) = 9998 + 1 from rfl]
    unfold Op.equalIn
    simp only [Sem.run_bind, run_underlying he, Result.andThen_ok, if_true, Sem.run_pure]
    rfl
  unfold Op.equal
  rw [show Op.maxDepth = 9999 + 1 from rfl, mkey, mkey, run_equalIn_array w 9999 _ _ hk hi, hs]
  simp only [show List.range 2 = [0, 1] from rfl, Op.eqItems, Sem.run_bind]
  rw [(pt i j w).1, Result.andThen_ok, (pt a b w).1, Result.andThen_ok, q, Result.andThen_ok]
  by_cases h : i = a
  · simp only [h, decide_true, Bool.not_true, Bool.false_eq_true, if_false, Sem.run_bind, true_and]
    rw [(pt a j w).2, Result.andThen_ok, (pt a b w).2, Result.andThen_ok, q, Result.andThen_ok]
    by_cases h2 : j = b <;> simp [h2]
  · simp [h]
theorem run_checkk {kt e : TypeId} [t : TPair P kt e] (c : Bool) (i j : Int) (w : World) : (Instr.checkKey c 10000 kt (mkey i j)).run P w = .ok () w := by
  have pt := run_part2 (P := P) (kt := kt) (e := e)
  obtain ⟨hk, he, ⟨ii, hi⟩, hs⟩ := t
  have q : ∀ x : Int, (Instr.checkKey c 9999 e (.int .i64 x)).run P w = .ok () w := fun x => by
    rw [show (9999 : Nat) = 9998 + 1 from rfl]
    unfold Instr.checkKey
    simp only [Sem.run_bind, run_underlying he, Result.andThen_ok, Sem.run_pure]
  rw [show (10000 : Nat) = 9999 + 1 from rfl]
  unfold Instr.checkKey
  simp only [mkey, Sem.run_bind, run_underlying hk, Result.andThen_ok, Std.Legacy.Range.forIn_eq_forIn_range', Std.Legacy.Range.size, Nat.sub_zero, Nat.add_one_sub_one, Nat.div_one]
  simp only [show List.range' 0 2 = [0, 1] from rfl, List.forIn_cons, List.forIn_nil, Sem.run_bind, run_sizeOf w hi, Result.andThen_ok, hs]
  rw [(pt i j w).1, Result.andThen_ok, q, Result.andThen_ok]
  simp only [Sem.run_bind, Sem.run_pure, Result.andThen_ok, run_sizeOf w hi, hs]
  rw [(pt i j w).2, Result.andThen_ok, q, Result.andThen_ok]
  simp only [Sem.run_pure, Result.andThen_ok]

/-! ### Maps from pairs to integers, as lists of triples in the order of their first writing -/
def entT (t : Int × Int × Int) : Value × Value := (mkey t.1 t.2.1, .int .i64 t.2.2)
def MapIs (es : Array MapEntry) (clock : Nat) (L : List (Int × Int × Int)) : Prop :=
  es.toList.map (fun e => (e.key, e.val)) = L.map entT ∧ (∀ e ∈ es.toList, e.born < clock) ∧ (es.toList.map (·.born)).Nodup
def isK (i j : Int) (t : Int × Int × Int) : Bool := decide (i = t.1 ∧ j = t.2.1)
def putM (L : List (Int × Int × Int)) (i j c : Int) : List (Int × Int × Int) := match L.findIdx? (isK i j) with | some k => L.set k (i, j, c) | none => L ++ [(i, j, c)]
def lookM (L : List (Int × Int × Int)) (i j : Int) : Int := match L.find? (isK i j) with | some t => t.2.2 | none => 0

theorem run_findk {kt e : TypeId} [t : TPair P kt e] (i j : Int) (w : World) : ∀ (es : List MapEntry) (L : List (Int × Int × Int)) (n : Nat), es.map (fun e => (e.key, e.val)) = L.map entT →
    (Instr.findAsking kt (mkey i j) es n).run P w = .ok (match L.findIdx? (isK i j) with | some k => some (n + k, .int .i64 (L.getD k (0, 0, 0)).2.2) | none => none) w
  | [], [], n, _ => by simp [Instr.findAsking]
  | [], _ :: _, n, h => by simp at h
  | _ :: _, [], n, h => by simp at h
  | x :: es, y :: L, n, h => by
    simp only [List.map_cons, List.cons.injEq, entT, Prod.mk.injEq] at h
    obtain ⟨⟨h1, h2⟩, h3⟩ := h
    have ih := run_findk (t := t) i j w es L (n + 1) h3
    simp only [Instr.findAsking, Sem.run_bind, h1, run_eqk (P := P) (kt := kt), Result.andThen_ok, List.findIdx?_cons]
    by_cases hq : i = y.1 ∧ j = y.2.1
    · simp [isK, hq, h2]
    · simp only [hq, decide_false, Bool.false_eq_true, if_false, ih, isK]
      cases L.findIdx? (isK i j) with
      | none => rfl
      | some k => simp [Nat.add_comm, Nat.add_left_comm]
theorem run_findKey {kt e : TypeId} [t : TPair P kt e] (i j : Int) (w : World) (es : List MapEntry) (L : List (Int × Int × Int)) (h : es.map (fun e => (e.key, e.val)) = L.map entT) :
    (Instr.findKey kt (mkey i j) es).run P w = .ok (match L.findIdx? (isK i j) with | some k => some (k, .int .i64 (L.getD k (0, 0, 0)).2.2) | none => none) w := by
  have hf := run_findk (P := P) (kt := kt) i j w es L 0 h
  simp only [Nat.zero_add] at hf
  unfold Instr.findKey
  simp only [Sem.run_bind, run_underlying t.hk, Result.andThen_ok]
  cases es with
  | nil =>
    cases L with
    | nil => simp [Instr.findNow]
    | cons => simp at h
  | cons x es =>
    have e1 : Instr.findNow (.array 2 e) (mkey i j) (x :: es) 0 = none := by simp [Instr.findNow, Instr.sameNow]
    simp only [e1]
    exact hf

theorem keys_get {es : Array MapEntry} {L : List (Int × Int × Int)} (h : es.toList.map (fun e => (e.key, e.val)) = L.map entT) (k : Nat) (hk : k < L.length) :
    ∃ x, es[k]? = some x ∧ x.key = mkey (L.getD k (0, 0, 0)).1 (L.getD k (0, 0, 0)).2.1 ∧ x.val = .int .i64 (L.getD k (0, 0, 0)).2.2 := by
  have h1 := congrArg (·[k]?) h
  simp only [List.getElem?_map, List.getElem?_eq_getElem hk, Option.map_some, Array.getElem?_toList] at h1
  cases hx : es[k]? with
  | none => rw [hx] at h1; simp at h1
  | some x =>
    rw [hx] at h1
    simp only [Option.map_some, Option.some.injEq, entT, Prod.mk.injEq] at h1
    exact ⟨x, rfl, by rw [h1.1]; simp [List.getD_eq_getElem?_getD, hk], by rw [h1.2]; simp [List.getD_eq_getElem?_getD, hk]⟩
theorem size_of {es : Array MapEntry} {L : List (Int × Int × Int)} (h : es.toList.map (fun e => (e.key, e.val)) = L.map entT) : es.size = L.length := by
  have := congrArg List.length h
  simpa using this

theorem run_setmap {w : World} {r : Nat} {es : Array MapEntry} {c : Nat} (hr : w.heap[r]? = some (.map es c)) (o' : Obj) : (setObj r o').run P w = .ok () (setBlock w r o') := by
  simp [setObj, Sem.run, hr, setBlock]
theorem same_key (i j : Int) : Instr.sameBits 10000 (mkey i j) (mkey i j) = true := by
  rw [show (10000 : Nat) = 9999 + 1 from rfl]
  unfold Instr.sameBits mkey
  simp [Instr.sameBits]

theorem run_mapset {T kt e ve : TypeId} [hT : TMap P T kt ve] [TPair P kt e] (w : World) (r : Nat) (es : Array MapEntry) (clock : Nat) (L : List (Int × Int × Int)) (hb : w.heap[r]? = some (.map es clock)) (hM : MapIs es clock L) (i j c : Int) :
    ∃ es' clock', (Instr.mapUpdate T (.map (some r)) (mkey i j) (.int .i64 c)).run P w = .ok () (setBlock w r (.map es' clock')) ∧ MapIs es' clock' (putM L i j c) := by
  have hf := run_findKey (P := P) (kt := kt) i j w es.toList L hM.1
  unfold Instr.mapUpdate
  simp only [Sem.run_bind, run_underlying hT.und, Result.andThen_ok, MapKept.run_getObj_map hb, run_checkk (P := P) (kt := kt), hf]
  cases hq : L.findIdx? (isK i j) with
  | none =>
    refine ⟨es.push ⟨mkey i j, .int .i64 c, clock⟩, clock + 1, ?_, ?_⟩
    · exact run_setmap hb _
    · obtain ⟨h1, h2, h3⟩ := hM
      refine ⟨?_, ?_, ?_⟩
      · unfold putM; rw [hq]
        simp [h1, entT]
      · intro x hx
        simp only [Array.toList_push, List.mem_append, List.mem_singleton] at hx
        rcases hx with hx | rfl
        · exact Nat.lt_succ_of_lt (h2 x hx)
        · exact Nat.lt_succ_self _
      · simp only [Array.toList_push, List.map_append, List.map_cons, List.map_nil]
        refine List.nodup_append.2 ⟨h3, by simp, ?_⟩
        intro a ha b hb
        simp only [List.mem_singleton] at hb
        subst hb
        obtain ⟨x, hx, rfl⟩ := List.mem_map.1 ha
        exact Nat.ne_of_lt (h2 x hx)
  | some k =>
    obtain ⟨hk, hik, _⟩ := List.findIdx?_eq_some_iff_getElem.1 hq
    obtain ⟨h1, h2, h3⟩ := hM
    obtain ⟨x, hx, hx1, hx2⟩ := keys_get h1 k hk
    have e1 : L.getD k (0, 0, 0) = L[k] := by simp [List.getD_eq_getElem?_getD, hk]
    simp only [isK, decide_eq_true_eq] at hik
    have e2 : x.key = mkey i j := by rw [hx1, e1, ← hik.1, ← hik.2]
    refine ⟨es.modify k fun e => { e with key := mkey i j, val := .int .i64 c }, clock, ?_, ?_⟩
    · simp only [hx, Option.map_some, Option.getD_some, e2, Instr.keyThatStays, same_key, if_true]
      exact run_setmap hb _
    · have hborn : (es.modify k fun e => { e with key := mkey i j, val := .int .i64 c }).toList.map (·.born) = es.toList.map (·.born) := by
        apply List.ext_getElem?
        intro m
        simp only [List.getElem?_map, Array.getElem?_toList, Array.getElem?_modify]
        split
        · cases es[m]? <;> rfl
        · rfl
      refine ⟨?_, ?_, ?_⟩
      · apply List.ext_getElem?
        intro m
        have hm := congrArg (·[m]?) h1
        simp only [List.getElem?_map, Array.getElem?_toList] at hm
        unfold putM; rw [hq]
        simp only [List.getElem?_map, Array.getElem?_toList, Array.getElem?_modify, List.getElem?_set]
        by_cases e : k = m
        · subst e
          simp [hx, hk, entT]
        · simp only [e, if_false]
          exact hm
      · intro y hy
        have : y.born ∈ es.toList.map (·.born) := by rw [← hborn]; exact List.mem_map_of_mem hy
        obtain ⟨z, hz, e⟩ := List.mem_map.1 this
        rw [← e]; exact h2 z hz
      · rw [hborn]; exact h3

theorem run_maplook {T kt e ve : TypeId} {b : Nat} [hT : TMap P T kt ve] [TPair P kt e] [hz : TElem P ve (.int .i64 0) b] (w : World) (r : Nat) (es : Array MapEntry) (clock : Nat) (L : List (Int × Int × Int)) (hb : w.heap[r]? = some (.map es clock)) (hM : MapIs es clock L) (i j : Int) :
    (Instr.lookup T (.map (some r)) (mkey i j) false).run P w = .ok (.int .i64 (lookM L i j)) w := by
  have hf := run_findKey (P := P) (kt := kt) i j w es.toList L hM.1
  obtain ⟨ii, hi, _, hzz, _⟩ := hz.info
  unfold Instr.lookup
  simp only [Sem.run_bind, run_underlying hT.und, Result.andThen_ok, MapKept.run_getObj_map hb, Sem.run_pure, run_checkk (P := P) (kt := kt), hf]
  unfold lookM
  cases hq : L.findIdx? (isK i j) with
  | none =>
    have e1 : L.find? (isK i j) = none := by
      rw [List.find?_eq_none]; intro t ht
      rw [List.findIdx?_eq_none_iff] at hq
      simp [hq t ht]
    simp [e1, zeroValue, typeInfo, hi, hzz]
  | some k =>
    have e1 : L.find? (isK i j) = some (L.getD k (0, 0, 0)) := by
      obtain ⟨hk, hik, hlt⟩ := List.findIdx?_eq_some_iff_getElem.1 hq
      rw [List.find?_eq_some_iff_getElem]
      refine ⟨by simpa [List.getD_eq_getElem?_getD, hk] using hik, k, hk, by simp [List.getD_eq_getElem?_getD, hk], fun j hj => ?_⟩
      have := hlt j hj
      simpa using this
    simp [e1]

/-! ### As objects, and as what is only read -/
def mapOb (L : List (Int × Int × Int)) : Ob := ob1 (fun b => .map (some b)) (fun o => ∃ es clock, o = .map es clock ∧ MapIs es clock L) fun _ => ⟨rfl, rfl⟩
def mapRo (L : List (Int × Int × Int)) : Ro where
  p w ok v := ∃ b es clock, v = .map (some b) ∧ ok b ∧ w.heap[b]? = some (.map es clock) ∧ MapIs es clock L
  up k h := by
    obtain ⟨b, es, clock, h1, h2, h3, h4⟩ := h
    have := k b h2 (Array.getElem?_eq_some_iff.1 h3).1
    exact ⟨b, es, clock, h1, this.1, this.2.trans h3, h4⟩
def mapAt (b : Nat) (es : Array MapEntry) (clock : Nat) : Ro where
  p w ok v := v = .map (some b) ∧ ok b ∧ w.heap[b]? = some (.map es clock)
  up k h := by
    obtain ⟨h1, h2, h3⟩ := h
    have := k b h2 (Array.getElem?_eq_some_iff.1 h3).1
    exact ⟨h1, this.1, this.2.trans h3⟩
def bornAt (es : Array MapEntry) (i : Nat) : Nat := ((es[i]?).map (·.born)).getD 0
/-- An iterator over the map at b, which has handed out the entries 'done'. -/
def itOb (b : Nat) (es : Array MapEntry) (clock : Nat) (done : List Nat) : Ob :=
  ob1 (fun r => .pointer (some ⟨r, 0, none⟩)) (fun o => ∃ since c0 seen, o = .mapIter (some b) since seen c0 ∧ since ≤ c0 ∧ (∀ x ∈ es.toList, x.born < since) ∧ seen.toList = done.map (bornAt es) ∧ (done = [] ∨ c0 = clock) ∧ since ≤ clock) fun _ => ⟨rfl, rfl⟩

theorem reads_map {os : List AO} {h : Nat} {L : List (Int × Int × Int)} (hs : os[h]? = some (.ob (mapOb L))) : Reads os [h] (.own h) (mapRo L) := by
  intro base w gs ok hro hok _ v hv
  cases hv with
  | own hg =>
    obtain ⟨o, h1, ⟨es, clock, rfl, h2⟩, _, h4, h5⟩ := hro _ _ _ hg hs
    exact ⟨_, es, clock, h5, hok h (by simp) _ _ hg hs (by simp) _ (by simp [h4]), h1, h2⟩

/-- A slot may be seen otherwise. -/
theorem Rel.see {base : Nat} {w : World} {gs : List Gh} {env : Env} {os : List AO} {tm : Array Value} (h : Rel base w gs env os tm) {k : Nat} {a : AV} (ha : RV w (okOf gs os) gs (tm.getD k undef) a) : Rel base w gs (env.up k a) os tm where
  hb := h.hb
  hl := h.hl
  hs := by simpa [Env.up] using h.hs
  he i := by
    rw [Env.lk_up]
    split
    · rename_i hi; rw [hi.1]; exact ha
    · exact h.he i
  ho := h.ho
  hd := h.hd
  hn := h.hn

section
variable {P : Program} {wl : Bool} {env : Env} {os : List AO} {d : Option Tmp} {ty : TypeId} {pos : String} {af : Array Edge} {g : Option (Nat × Bool)}

theorem AWp.open {c : Code} {N : Env → List AO → Prop} {X : Nat → Env → List AO → Prop} {Rt : Env → List AO → Prop} (k : Nat) {L : List (Int × Int × Int)} (hk : env.fd k = some (.ro (mapRo L)))
    (h : ∀ b es clock, MapIs es clock L → AWp P c N X Rt (env.up k (.ro (mapAt b es clock))) os) : AWp P c N X Rt env os := by
  intro base w0 w gs tm hr
  have hv := hr.he k
  rw [Env.lk_of hk] at hv
  generalize hu : tm.getD k undef = u at hv
  cases hv with
  | ro h1 =>
    obtain ⟨b, es, clock, e1, e2, e3, hM⟩ := h1
    exact h b es clock hM base w0 w gs tm (hr.see (by rw [hu]; exact .ro ⟨e1, e2, e3⟩))

theorem Ret1.ob {h : Nat} {q : Ob} (hs : os[h]? = some (.ob q)) : Ret1 os (.own h) (.own 0) [.ob q] := fun base w gs env tm hr u hu => by
  cases hu with
  | @own _ g hg => exact ⟨[g], .one (hr.ho _ _ _ hg hs) fun b hb => hr.hn _ _ _ hg hs (by simp) b hb, .own rfl⟩

/-- A new object of one block. -/
theorem l_newob {o : Oper} {val : Nat → Value} {p : Obj → Prop} {one : ∀ b, (val b).oneCell' = true ∧ (val b).cells = #[val b]} {ob : Obj} (hq : p ob) (hrun : ∀ base w gs tm, Rel base w gs env os tm → (execOp (Act.eval ⟨tm, []⟩) o).run P w = .ok (.value (val w.heap.size)) (w.alloc ob)) :
    LOp P o env os (.own os.length) env (os ++ [.ob (ob1 val p one)]) := by
  intro base w gs tm hr
  have hbel := below_alloc w ob
  have hno : AO.ob (ob1 val p one) ≠ .dead → ∀ b, b ∈ [w.heap.size] → w.heap.size ≤ b ∧ b < (w.alloc ob).heap.size := fun _ b hb => by simp at hb; simp [hb]
  refine ⟨_, _, gs ++ [⟨val w.heap.size, w.heap.size, [w.heap.size], []⟩], .inl (hrun base w gs tm hr), hr.new hbel _ _ hno ?_, ?_, hbel.mono hr.hb⟩
  · exact ⟨ob, heap_alloc_new w _, hq, hr.hb, rfl, rfl⟩
  · have := RV.own (w := w.alloc ob) (ok := okOf (gs ++ [⟨val w.heap.size, w.heap.size, [w.heap.size], []⟩]) (os ++ [.ob (ob1 val p one)])) (len_new (gs := gs) (g := ⟨val w.heap.size, w.heap.size, [w.heap.size], []⟩))
    rw [hr.hl] at this
    exact this

theorem l_makemap {T : TypeId} : LOp P ⟨d, .makeMap T none, ty, pos, af, g⟩ env os (.own os.length) env (os ++ [.ob (mapOb [])]) :=
  l_newob (ob := .map #[] 0) ⟨#[], 0, rfl, by simp [MapIs]⟩ fun base w gs tm hr => by
    simp [execOp, Instr.makeMap]

theorem map_at {base : Nat} {w : World} {gs : List Gh} {tm : Array Value} (hr : Rel base w gs env os tm) {x : Operand} {b : Nat} {es : Array MapEntry} {clock : Nat} (hx : AV.ev env x = .ro (mapAt b es clock)) :
    Act.eval ⟨tm, []⟩ x = .map (some b) ∧ okOf gs os b ∧ w.heap[b]? = some (.map es clock) := by
  have h := hr.ev x
  rw [hx] at h
  generalize Act.eval ⟨tm, []⟩ x = v at h
  cases h with
  | ro h1 => exact h1

theorem setBlock_other (w : World) (r c : Nat) (o : Obj) (h : c ≠ r) : (setBlock w r o).heap[c]? = w.heap[c]? := by
  simp only [setBlock]
  rw [Array.getElem?_setIfInBounds, if_neg (fun e => h e.symm)]
theorem setBlock_same (w : World) (r : Nat) (o : Obj) (h : r < w.heap.size) : (setBlock w r o).heap[r]? = some o := by
  simp only [setBlock]
  rw [Array.getElem?_setIfInBounds, if_pos rfl, if_pos h]
theorem setBlock_below {w w1 : World} {base r : Nat} {o : Obj} (h1 : w1 = w ∨ w1 = w.drew) (hr : base ≤ r) : Below base w (setBlock w1 r o) := by
  have : Below base w w1 := by rcases h1 with rfl | rfl; exact Below.refl _ _; exact (Below.refl _ _).drew
  exact ⟨this.os, this.tape, this.output, by simpa [setBlock] using this.size, fun k hk => by rw [setBlock_other _ _ _ _ (by omega)]; exact this.block k hk⟩

theorem l_mapset {T kt e ve : TypeId} [TMap P T kt ve] [TPair P kt e] {m k v : Operand} {h : Nat} {L : List (Int × Int × Int)} {i j c : Int} (hm : AV.ev env m = .own h) (hs : os[h]? = some (.ob (mapOb L))) (hk : AV.ev env k = .agg [.i i, .i j]) (hv : AV.ev env v = .i c) :
    LOp P ⟨d, .mapUpdate T m k v, ty, pos, af, g⟩ env os .any env (os.set h (.ob (mapOb (putM L i j c)))) := by
  intro base w gs tm hr
  have hh := hr.ev m
  rw [hm] at hh
  have hkk := hr.ev k
  rw [hk] at hkk
  have ek : Act.eval ⟨tm, []⟩ k = mkey i j := by
    generalize Act.eval ⟨tm, []⟩ k = u at hkk
    cases hkk with
    | @agg vs _ a1 _ a3 =>
      match vs, a1 with
      | [x, y], _ =>
        have h0 := a3 0
        have h1 := a3 1
        simp only [List.getD_cons_zero, List.getD_cons_succ] at h0 h1
        cases h0; cases h1; rfl
  generalize hu : Act.eval ⟨tm, []⟩ m = u at hh
  cases hh with
  | @own _ gh hg =>
    obtain ⟨o, a1, ⟨es, clock, rfl, hM⟩, a3, a4, a5⟩ := hr.ho _ _ _ hg hs
    obtain ⟨es', clock', hrun, hM'⟩ := run_mapset (P := P) (T := T) w gh.b es clock L a1 hM i j c
    have hlt : gh.b < w.heap.size := (Array.getElem?_eq_some_iff.1 a1).1
    refine ⟨undef, setBlock w gh.b (.map es' clock'), gs, .inr ⟨?_, rfl⟩, hr.upd hg hs trivial _ trivial (fun b _ hb => setBlock_other _ _ _ _ (fun e => hb (by rw [a4, e]; simp))) (by simp [setBlock]) fun _ => ?_, .any _, setBlock_below (.inl rfl) a3⟩
    · have e5 : gh.v = .map (some gh.b) := a5
      simp only [execOp, hu, e5, ek, hr.evv hv, Sem.run_bind, hrun, Result.andThen_ok, Sem.run_pure]
    · exact ⟨_, setBlock_same _ _ _ hlt, ⟨es', clock', rfl, hM'⟩, a3, a4, a5⟩

theorem q_maplook {T kt e ve : TypeId} {bb : Nat} [TMap P T kt ve] [TPair P kt e] [TElem P ve (.int .i64 0) bb] {m k : Operand} {h : Nat} {L : List (Int × Int × Int)} {i j : Int} (hm : AV.ev env m = .own h) (hs : os[h]? = some (.ob (mapOb L))) (hk : AV.ev env k = .agg [.i i, .i j]) :
    QOp P false ⟨d, .lookup T m k false, ty, pos, af, g⟩ env os (.i (lookM L i j)) :=
  .of_runb fun base w gs tm hr => by
    have hh := hr.ev m
    rw [hm] at hh
    have hkk := hr.ev k
    rw [hk] at hkk
    have ek : Act.eval ⟨tm, []⟩ k = mkey i j := by
      generalize Act.eval ⟨tm, []⟩ k = u at hkk
      cases hkk with
      | @agg vs _ a1 _ a3 =>
        match vs, a1 with
        | [x, y], _ =>
          have h0 := a3 0
          have h1 := a3 1
          simp only [List.getD_cons_zero, List.getD_cons_succ] at h0 h1
          cases h0; cases h1; rfl
    generalize hu : Act.eval ⟨tm, []⟩ m = u at hh
    cases hh with
    | @own _ gh hg =>
      obtain ⟨o, a1, ⟨es, clock, rfl, hM⟩, a3, a4, a5⟩ := hr.ho _ _ _ hg hs
      refine ⟨_, .val _, fun w' hw' => ?_⟩
      have hblk := (hw'.block _ (Array.getElem?_eq_some_iff.1 a1).1).trans a1
      have e5 : gh.v = .map (some gh.b) := a5
      simp only [execOp, hu, e5, ek, Sem.run_bind, run_maplook (P := P) (T := T) w' gh.b es clock L hblk hM i j, Result.andThen_ok, Sem.run_pure]

theorem l_range {T kt ve : TypeId} [hT : TMap P T kt ve] {x : Operand} {b : Nat} {es : Array MapEntry} {clock : Nat} {L : List (Int × Int × Int)} (hM : MapIs es clock L) (hx : AV.ev env x = .ro (mapAt b es clock)) :
    LOp P ⟨d, .range T x, ty, pos, af, g⟩ env os (.own os.length) env (os ++ [.ob (itOb b es clock [])]) :=
  l_newob (ob := .mapIter (some b) clock #[] clock) ⟨clock, clock, #[], rfl, Nat.le_refl _, hM.2.1, by simp, .inl rfl, Nat.le_refl _⟩ fun base w gs tm hr => by
    obtain ⟨h1, _, h3⟩ := map_at hr hx
    simp only [execOp, h1, Instr.range, Sem.run_bind, run_underlying hT.und, Result.andThen_ok, MapKept.run_getObj_map h3, Sem.run_pure]
    simp

theorem born_inj {es : Array MapEntry} {clock : Nat} {L : List (Int × Int × Int)} (hM : MapIs es clock L) {i j : Nat} (hi : i < L.length) (hj : j < L.length) (h : bornAt es i = bornAt es j) : i = j := by
  obtain ⟨x, hx, _⟩ := keys_get hM.1 i hi
  obtain ⟨y, hy, _⟩ := keys_get hM.1 j hj
  simp only [bornAt, hx, hy, Option.map_some, Option.getD_some] at h
  have hn := hM.2.2
  have hs := size_of hM.1
  have gi : (es.toList.map (·.born))[i]? = some x.born := by simp [hx]
  have gj : (es.toList.map (·.born))[j]? = some y.born := by simp [hy]
  exact (List.getElem?_inj (by simp; omega) hn).1 (gi.trans (by rw [h]; exact gj.symm))

/-- One round of a loop over a map begins, or the loop ends. -/
theorem AOps.next {l rest : List Oper} {K : APost} {d : Tmp} {it : Operand} {h : Nat} {b : Nat} {es : Array MapEntry} {clock : Nat} {done : List Nat} {L : List (Int × Int × Int)} (m : Operand) (hM : MapIs es clock L) (hdone : ∀ i ∈ done, i < L.length)
    (hx : evo env it = some (.own h)) (hs : os[h]? = some (.ob (itOb b es clock done))) (hm : evo env m = some (.ro (mapAt b es clock)))
    (h0 : (∀ i, i < L.length → i ∈ done) → AOps P .seq l rest K (env.up d (.val (.tuple #[.bool false]))) os)
    (h1 : ∀ i, i < L.length → i ∉ done → AOps P .seq l rest K (env.up d (.val (.tuple #[.bool true, mkey (L.getD i (0, 0, 0)).1 (L.getD i (0, 0, 0)).2.1, .int .i64 (L.getD i (0, 0, 0)).2.2]))) (os.set h (.ob (itOb b es clock (done ++ [i]))))) :
    AOps P .seq l (⟨some d, .next it false, ty, pos, af, none⟩ :: rest) K env os := by
  intro base w0 w gs tm hr hb X Rt
  obtain ⟨_, hok, hmap⟩ := map_at hr (ev_of hm)
  have hh := hr.ev it
  rw [ev_of hx] at hh
  generalize hu : Act.eval ⟨tm, []⟩ it = u at hh
  cases hh with
  | @own _ gh hg =>
    obtain ⟨o, a1, ⟨since, c0, seen, rfl, q1, q2, q3, q4, q5⟩, a3, a4, a5⟩ := hr.ho _ _ _ hg hs
    have e5 : gh.v = .pointer (some ⟨gh.b, 0, none⟩) := a5
    have hlt : gh.b < w.heap.size := (Array.getElem?_eq_some_iff.1 a1).1
    have mem_seen : ∀ i, i < L.length → (bornAt es i ∈ seen.toList ↔ i ∈ done) := by
      intro i hi
      rw [q3, List.mem_map]
      constructor
      · rintro ⟨j, hj, e⟩
        have := born_inj hM (hdone j hj) hi e
        rwa [← this]
      · intro hi2; exact ⟨i, hi2, rfl⟩
    refine wpList_plain rfl fun K hK => ?_
    unfold Oper.wp
    rcases run_next_at (P := P) w ty gh.b b since c0 seen es clock a1 hmap q2 q1 with ⟨hz, hrun⟩ | ⟨e, he, w1, hw1, hrun⟩
    · have hrun' : (execOp (Act.eval ⟨tm, []⟩) ⟨some d, .next it false, ty, pos, af, none⟩).run P w = .ok (.value (.tuple #[.bool false])) w := by
        simp only [execOp, hu, e5, Sem.run_bind, hrun, Result.andThen_ok, Sem.run_pure]
      rw [hrun']
      refine hK _ _ (h0 (fun i hi => ?_) base w0 w gs _ (hr.put (.val _) d) hb X Rt)
      obtain ⟨x, hxe, _⟩ := keys_get hM.1 i hi
      have hnil : leftOf es seen = #[] := Array.eq_empty_of_size_eq_zero hz
      unfold leftOf at hnil
      rw [Array.filter_eq_empty_iff] at hnil
      have := hnil x (Array.mem_of_getElem? hxe)
      simp only [Bool.not_eq_true, Bool.not_eq_false', Array.contains_eq_mem, decide_eq_true_eq] at this
      refine (mem_seen i hi).1 ?_
      simpa [bornAt, hxe] using this
    · unfold leftOf at he
      simp only [Array.mem_toList_iff, Array.mem_filter, Bool.not_eq_true', Array.contains_eq_mem, decide_eq_false_iff_not] at he
      obtain ⟨hmem, hns⟩ := he
      obtain ⟨i, hi⟩ := Array.getElem?_of_mem hmem
      have hiL : i < L.length := by
        have := (Array.getElem?_eq_some_iff.1 hi).1
        have := size_of hM.1
        omega
      obtain ⟨x, hxe, k1, k2⟩ := keys_get hM.1 i hiL
      have ex : x = e := Option.some.inj (hxe.symm.trans hi)
      subst ex
      have hnd : i ∉ done := fun hc => hns (by have := (mem_seen i hiL).2 hc; simpa [bornAt, hxe] using this)
      have hrun' : (execOp (Act.eval ⟨tm, []⟩) ⟨some d, .next it false, ty, pos, af, none⟩).run P w = .ok (.value (.tuple #[.bool true, mkey (L.getD i (0, 0, 0)).1 (L.getD i (0, 0, 0)).2.1, .int .i64 (L.getD i (0, 0, 0)).2.2])) (setBlock w1 gh.b (.mapIter (some b) since (seen.push x.born) clock)) := by
        simp only [execOp, hu, e5, Sem.run_bind, hrun, Result.andThen_ok, Sem.run_pure, k1, k2]
      rw [hrun']
      have hw1h : w1.heap = w.heap := by rcases hw1 with rfl | rfl <;> rfl
      refine hK _ _ (h1 i hiL hnd base w0 _ gs _ ((hr.upd hg hs trivial (.ob (itOb b es clock (done ++ [i]))) trivial (fun c _ hc => ?_) ?_ fun _ => ?_).put (.val _) d) (hb.trans (setBlock_below hw1 a3)) X Rt)
      · rw [setBlock_other _ _ _ _ (fun e => hc (by rw [a4, e]; simp)), hw1h]
      · simp [setBlock, hw1h]
      · exact ⟨_, setBlock_same _ _ _ (by rw [hw1h]; exact hlt), ⟨since, clock, seen.push x.born, rfl, q5, q2, by simp [q3, bornAt, hxe], .inr rfl, q5⟩, a3, a4, a5⟩

/-- The key and the number of the entry that was handed out last. -/
theorem q_entry {it : Operand} {h : Nat} {b : Nat} {es : Array MapEntry} {clock : Nat} {done : List Nat} {i : Nat} {L : List (Int × Int × Int)} (m : Operand) (hM : MapIs es clock L) (hi : i < L.length)
    (hx : AV.ev env it = .own h) (hs : os[h]? = some (.ob (itOb b es clock (done ++ [i])))) (hm : AV.ev env m = .ro (mapAt b es clock)) :
    QOp P false ⟨d, .entry it, ty, pos, af, g⟩ env os (.tup [.agg [.i (L.getD i (0, 0, 0)).1, .i (L.getD i (0, 0, 0)).2.1], .i (L.getD i (0, 0, 0)).2.2]) :=
  .of_runb fun base w gs tm hr => by
    obtain ⟨_, hok, hmap⟩ := map_at hr hm
    have hh := hr.ev it
    rw [hx] at hh
    generalize hu : Act.eval ⟨tm, []⟩ it = u at hh
    cases hh with
    | @own _ gh hg =>
      obtain ⟨o, a1, ⟨since, c0, seen, rfl, q1, q2, q3, q4, q5⟩, a3, a4, a5⟩ := hr.ho _ _ _ hg hs
      have e5 : gh.v = .pointer (some ⟨gh.b, 0, none⟩) := a5
      obtain ⟨x, hxe, k1, k2⟩ := keys_get hM.1 i hi
      have hc : c0 = clock := by
        rcases q4 with h | h
        · simp at h
        · exact h
      subst hc
      have hseen : seen = (done.map (bornAt es)).toArray.push x.born := by
        apply Array.ext'
        rw [q3]
        simp [bornAt, hxe]
      refine ⟨.tuple [mkey (L.getD i (0, 0, 0)).1 (L.getD i (0, 0, 0)).2.1, .int .i64 (L.getD i (0, 0, 0)).2.2].toArray, .tup rfl (rv_list rfl fun j hj => ?_), fun w' hw' => ?_⟩
      · match j, hj with
        | 0, _ =>
          refine RV.agg (vs := [.int .i64 (L.getD i (0, 0, 0)).1, .int .i64 (L.getD i (0, 0, 0)).2.1]) rfl (by simp; exact ⟨rfl, rfl⟩) (rv_list rfl fun j hj => ?_)
          match j, hj with
          | 0, _ => exact .val _
          | 1, _ => exact .val _
        | 1, _ => exact .val _
      · have hb1 := (hw'.block _ (Array.getElem?_eq_some_iff.1 a1).1).trans a1
        have hb2 := (hw'.block _ (Array.getElem?_eq_some_iff.1 hmap).1).trans hmap
        rw [hseen] at hb1
        have hrun := run_entry_at (P := P) w' gh.b b since (done.map (bornAt es)).toArray es c0 x hb1 hb2 (by simpa using Array.mem_of_getElem? hxe) hM.2.2
        simp only [execOp, hu, e5, Sem.run_bind, hrun, Result.andThen_ok, Sem.run_pure, k1, k2]

theorem q_idxarr {t e : TypeId} {n : Nat} [ht : TArr P t e n] {x y : Operand} {h i : Nat} {k : Int} (hx : AV.ev env x = .optr h i) (hy : AV.ev env y = .i k) (h0 : 0 ≤ k) (h1 : k < n) :
    QOp P wl ⟨d, .indexAddr t x y, ty, pos, af, g⟩ env os (.optr h (i + k.toNat)) :=
  .of_run fun _ w gs tm hr => by
    have hh := hr.ev x
    rw [hx] at hh
    generalize hv : Act.eval ⟨tm, []⟩ x = v at hh
    cases hh with
    | optr hg =>
      refine ⟨_, .optr hg, fun w' hw' => ?_⟩
      obtain ⟨ii, hi, hsz⟩ := ht.elm
      simp [execOp, hv, hr.evv hy, Instr.indexAt, run_underlying ht.und, asIntOf, Instr.sureAddr, sizeOf, typeInfo, hi, hsz, h0, h1, add_none]

variable {l rest : List Oper} {K : APost} {q : Md}
theorem w_entry {d : Tmp} {it : Operand} {h : Nat} {b : Nat} {es : Array MapEntry} {clock : Nat} {done : List Nat} {i : Nat} {L : List (Int × Int × Int)} (m : Operand) (hM : MapIs es clock L) (hi : i < L.length)
    (hw : wantedA l env ⟨some d, .entry it, ty, pos, af, g⟩ = some true) (hq : q.wl = false) (hx : evo env it = some (.own h)) (hs : os[h]? = some (.ob (itOb b es clock (done ++ [i])))) (hm : evo env m = some (.ro (mapAt b es clock)))
    (h' : AOps P q l rest K (env.up d (.tup [.agg [.i (L.getD i (0, 0, 0)).1, .i (L.getD i (0, 0, 0)).2.1], .i (L.getD i (0, 0, 0)).2.2])) os) : AOps P q l (⟨some d, .entry it, ty, pos, af, g⟩ :: rest) K env os :=
  AOps.qo hw (by rw [hq]; exact q_entry m hM hi (ev_of hx) hs (ev_of hm)) h'
theorem w_idxarr {d : Tmp} {t e : TypeId} {n : Nat} [TArr P t e n] {x y : Operand} {h i j : Nat} {k : Int} (hw : wantedA l env ⟨some d, .indexAddr t x y, ty, pos, af, g⟩ = some true) (hx : evo env x = some (.optr h i)) (hy : evo env y = some (.i k)) (h0 : 0 ≤ k) (h1 : k < n) (hj : i + k.toNat = j)
    (h' : AOps P q l rest K (env.up d (.optr h j)) os) : AOps P q l (⟨some d, .indexAddr t x y, ty, pos, af, g⟩ :: rest) K env os :=
  AOps.qo hw (QOp.cast (by rw [hj]) (q_idxarr (ev_of hx) (ev_of hy) h0 h1)) h'
theorem w_maplook {d : Tmp} {T kt e ve : TypeId} {bb : Nat} [TMap P T kt ve] [TPair P kt e] [TElem P ve (.int .i64 0) bb] {m k : Operand} {h : Nat} {L : List (Int × Int × Int)} {i j : Int} (hw : wantedA l env ⟨some d, .lookup T m k false, ty, pos, af, g⟩ = some true) (hq : q.wl = false)
    (hm : evo env m = some (.own h)) (hs : os[h]? = some (.ob (mapOb L))) (hk : evo env k = some (.agg [.i i, .i j])) (h' : AOps P q l rest K (env.up d (.i (lookM L i j))) os) : AOps P q l (⟨some d, .lookup T m k false, ty, pos, af, g⟩ :: rest) K env os :=
  AOps.qo hw (by rw [hq]; exact q_maplook (ev_of hm) hs (ev_of hk)) h'
theorem w_makemap {d : Tmp} {T : TypeId} {m : Nat} (hm : os.length = m) (h' : AOps P .seq l rest K (env.up d (.own m)) (os ++ [.ob (mapOb [])])) : AOps P .seq l (⟨some d, .makeMap T none, ty, pos, af, none⟩ :: rest) K env os := by
  subst hm; exact AOps.lo l_makemap h'
theorem w_mapset {T kt e ve : TypeId} [TMap P T kt ve] [TPair P kt e] {m k v : Operand} {h : Nat} {L : List (Int × Int × Int)} {i j c : Int} (hm : evo env m = some (.own h)) (hs : os[h]? = some (.ob (mapOb L))) (hk : evo env k = some (.agg [.i i, .i j])) (hv : evo env v = some (.i c))
    (h' : AOps P .seq l rest K env (os.set h (.ob (mapOb (putM L i j c))))) : AOps P .seq l (⟨none, .mapUpdate T m k v, ty, pos, af, none⟩ :: rest) K env os :=
  AOps.so (l_mapset (ev_of hm) hs (ev_of hk) (ev_of hv)) h'
theorem w_range {d : Tmp} {T kt ve : TypeId} [TMap P T kt ve] {x : Operand} {b : Nat} {es : Array MapEntry} {clock : Nat} {L : List (Int × Int × Int)} {m : Nat} (hM : MapIs es clock L) (hx : evo env x = some (.ro (mapAt b es clock))) (hm : os.length = m)
    (h' : AOps P .seq l rest K (env.up d (.own m)) (os ++ [.ob (itOb b es clock [])])) : AOps P .seq l (⟨some d, .range T x, ty, pos, af, none⟩ :: rest) K env os := by
  subst hm; exact AOps.lo (l_range hM (ev_of hx)) h'
end
end Go.Proofs.Ytkickbnahajpoaa
/-
  A few polynomials (structs of one slice) handed on as a slice. No condition.
-/
namespace Go.Proofs.Ytkickbnahajpoaa
open Go Go.RowKit

section
variable {P : Program} {wl : Bool} {env : Env} {os : List AO} {d : Option Tmp} {ty : TypeId} {pos : String} {af : Array Edge} {g : Option (Nat × Bool)}

variable {l rest : List Oper} {K : APost} {q : Md}
end
end Go.Proofs.Ytkickbnahajpoaa
/-
  Functions without results that write to what they are handed. No condition.
-/
namespace Go.Proofs.Ytkickbnahajpoaa
open Go Go.RowKit
theorem AFnUN.of {P : Program} {f : FuncId} {fn : Func} {c : Code} {args : List AV} {os : List AO} {Q : Value → List AO → Prop} {n : Nat} (hf : P.funcs[f]? = some fn) (hb : fn.body = some c) (hnm : (fn.name == "runtime.NumGoroutine") = false) (hn : fn.ntmps - args.length = n)
    (h : ∀ K, AWp P c (fun env os1 => ∃ v os', ResIs P fn env os1 (.val v) ∧ Q v os' ∧ os1.take os.length = os' ∧ os1[os.length]? = some (.keep (os.length + 1) K) ∧ ∀ o ∈ os', o.plain) (fun _ _ _ => False) (fun env os1 => ∃ v os', ResIs P fn env os1 (.val v) ∧ Q v os' ∧ os1.take os.length = os' ∧ os1[os.length]? = some (.keep (os.length + 1) K) ∧ ∀ o ∈ os', o.plain) (Env.start args n) (os ++ [.keep (os.length + 1) K])) :
    AFnU P f args os Q := by
  refine ⟨⟨fn, c, hf, hnm, hb⟩, fun base w gs vs hbase hO hsz hvs => calls_of_wp hf hb ?_⟩
  rw [show fn.ntmps - vs.size = n by rw [hsz]; exact hn]
  let bl : List Nat := (List.range w.heap.size).filter fun b => decide (base ≤ b) && gs.all fun g => !g.bl.contains b
  let gk : Gh := ⟨undef, 0, bl, []⟩
  let K : Kp := ⟨fun b => w.heap[b]?, gs ++ [gk]⟩
  have hbl : ∀ b, b ∈ bl ↔ b < w.heap.size ∧ base ≤ b ∧ ∀ (h : Nat) g, gs[h]? = some g → b ∉ g.bl := by
    intro b
    simp only [bl, List.mem_filter, List.mem_range, Bool.and_eq_true, decide_eq_true_eq, List.all_eq_true, Bool.not_eq_true', List.contains_eq_mem, decide_eq_false_iff_not]
    constructor
    · rintro ⟨h1, h2, h3⟩
      exact ⟨h1, h2, fun h g hg => h3 g (List.mem_of_getElem? hg)⟩
    · rintro ⟨h1, h2, h3⟩
      exact ⟨h1, h2, fun g hg => by obtain ⟨i, hi⟩ := List.getElem?_of_mem hg; exact h3 i g hi⟩
  have hl := hO.hl
  have part : ∀ {i : Nat} {x : Gh} {y : AO}, (gs ++ [gk])[i]? = some x → (os ++ [.keep (os.length + 1) K])[i]? = some y → (gs[i]? = some x ∧ os[i]? = some y) ∨ (i = os.length ∧ x = gk ∧ y = .keep (os.length + 1) K) := by
    intro i x y hx hy
    rcases append_one hx with ⟨h1, h2⟩ | ⟨h1, rfl⟩
    · rcases append_one hy with ⟨h3, h4⟩ | ⟨h3, rfl⟩
      · exact .inl ⟨h2, h4⟩
      · omega
    · rcases append_one hy with ⟨h3, h4⟩ | ⟨h3, rfl⟩
      · omega
      · exact .inr ⟨h3, rfl, rfl⟩
  have gl : ∀ (i : Nat) x, gs[i]? = some x → (gs ++ [gk])[i]? = some x := fun i x e => by
    rw [List.getElem?_append_left (List.getElem?_eq_some_iff.1 e).1]; exact e
  have kp : Keeps (okOf gs os) (okOf (gs ++ [gk]) (os ++ [.keep (os.length + 1) K])) w w := by
    intro b hbk _
    refine ⟨fun i x y hx hy hny hm => ?_, rfl⟩
    rcases part hx hy with ⟨h1, h2⟩ | ⟨_, _, rfl⟩
    · exact hbk i x y h1 h2 hny hm
    · exact hny.elim
  have hrel : Rel base w (gs ++ [gk]) (Env.start args n) (os ++ [.keep (os.length + 1) K]) (vs ++ Array.replicate n undef) := by
    refine ⟨hbase, by simp [hl], by simp [Env.start, hsz], fun i => ?_, ?_, ?_, ?_⟩
    · exact start_rv args n vs (fun i => (hvs i).mono kp gl) i
    · intro i x y hx hy
      rcases part hx hy with ⟨h1, h2⟩ | ⟨_, rfl, rfl⟩
      · exact (hO.hp y (List.mem_of_getElem? h2)).ro (hO.ho i x y h1 h2)
      · exact ⟨fun b _ => rfl, by simp [K, hl], fun i x h => h⟩
    · intro i j g1 g2 o1 o2 hij hg1 hg2 ho1 ho2 _ _ b hb1 hb2
      rcases part hg1 ho1 with ⟨a1, a2⟩ | ⟨a1, rfl, _⟩
      · rcases part hg2 ho2 with ⟨b1, b2⟩ | ⟨_, rfl, _⟩
        · exact hO.hd i j g1 g2 hij a1 b1 b hb1 hb2
        · exact ((hbl b).1 hb2).2.2 i g1 a1 hb1
      · rcases part hg2 ho2 with ⟨b1, b2⟩ | ⟨b1, _, _⟩
        · exact ((hbl b).1 hb1).2.2 j g2 b1 hb2
        · omega
    · intro i x y hx hy _ b hb
      rcases part hx hy with ⟨h1, h2⟩ | ⟨_, rfl, _⟩
      · exact hO.hn i x h1 b hb
      · exact ⟨((hbl b).1 hb).2.1, ((hbl b).1 hb).1⟩
  refine wp_mono (h K base w w _ _ hrel (Below.refl _ _)) ?_
  intro e a w' hq
  cases e with
  | normal =>
    obtain ⟨env, os1, gs1, hr, hd, hbel, v, os', h1, h2, h3, h4, h5⟩ := hq
    obtain ⟨u, hu, hv⟩ := h1 _ _ _ _ hr
    cases hv
    have hlt : os.length < os1.length := (List.getElem?_eq_some_iff.1 h4).1
    have hltg : os.length < gs1.length := by have := hr.hl; omega
    obtain ⟨g1, hg1⟩ : ∃ g1, gs1[os.length]? = some g1 := ⟨_, List.getElem?_eq_getElem hltg⟩
    obtain ⟨r1, r2, r3⟩ := hr.ho _ _ _ hg1 h4
    have pin : ∀ (i : Nat) x, gs[i]? = some x → gs1[i]? = some x := fun i x e => r3 i x (gl i x e)
    have egk : g1 = gk := by
      have := r3 os.length gk (by show (gs ++ [gk])[os.length]? = some gk; rw [← hl]; simp)
      rw [hg1] at this
      exact Option.some.inj this
    rw [egk] at r1
    have get' : ∀ {i : Nat} {y : AO}, os'[i]? = some y → os1[i]? = some y ∧ i < os.length := by
      intro i y hy
      rw [← h3, List.getElem?_take] at hy
      split at hy
      · exact ⟨hy, ‹_›⟩
      · cases hy
    refine ⟨hd, v, hu, v, os', rfl, h2, ⟨?_, h5, ?_, hO.hd, ?_⟩, hbel, ?_⟩
    · rw [← h3, List.length_take]; omega
    · intro i x y hx hy
      obtain ⟨h6, h7⟩ := get' hy
      exact (h5 y (List.mem_of_getElem? hy)).ro (hr.ho i x y (pin i x hx) h6)
    · intro i x hx b hb
      have := hO.hn i x hx b hb
      exact ⟨this.1, Nat.lt_of_lt_of_le this.2 hbel.size⟩
    · intro b hb hnot
      rcases Nat.lt_or_ge b base with h6 | h6
      · exact hbel.block b h6
      · exact r1 b ((hbl b).2 ⟨hb, h6, hnot⟩)
  | exit j => obtain ⟨_, _, _, _, _, _, hx⟩ := hq; exact hx.elim
  | ret =>
    obtain ⟨env, os1, gs1, hr, hd, hbel, v, os', h1, h2, h3, h4, h5⟩ := hq
    obtain ⟨u, hu, hv⟩ := h1 _ _ _ _ hr
    cases hv
    have hlt : os.length < os1.length := (List.getElem?_eq_some_iff.1 h4).1
    have hltg : os.length < gs1.length := by have := hr.hl; omega
    obtain ⟨g1, hg1⟩ : ∃ g1, gs1[os.length]? = some g1 := ⟨_, List.getElem?_eq_getElem hltg⟩
    obtain ⟨r1, r2, r3⟩ := hr.ho _ _ _ hg1 h4
    have pin : ∀ (i : Nat) x, gs[i]? = some x → gs1[i]? = some x := fun i x e => r3 i x (gl i x e)
    have egk : g1 = gk := by
      have := r3 os.length gk (by show (gs ++ [gk])[os.length]? = some gk; rw [← hl]; simp)
      rw [hg1] at this
      exact Option.some.inj this
    rw [egk] at r1
    have get' : ∀ {i : Nat} {y : AO}, os'[i]? = some y → os1[i]? = some y ∧ i < os.length := by
      intro i y hy
      rw [← h3, List.getElem?_take] at hy
      split at hy
      · exact ⟨hy, ‹_›⟩
      · cases hy
    refine ⟨hd, v, hu, v, os', rfl, h2, ⟨?_, h5, ?_, hO.hd, ?_⟩, hbel, ?_⟩
    · rw [← h3, List.length_take]; omega
    · intro i x y hx hy
      obtain ⟨h6, h7⟩ := get' hy
      exact (h5 y (List.mem_of_getElem? hy)).ro (hr.ho i x y (pin i x hx) h6)
    · intro i x hx b hb
      have := hO.hn i x hx b hb
      exact ⟨this.1, Nat.lt_of_lt_of_le this.2 hbel.size⟩
    · intro b hb hnot
      rcases Nat.lt_or_ge b base with h6 | h6
      · exact hbel.block b h6
      · exact r1 b ((hbl b).2 ⟨hb, h6, hnot⟩)
  | goto l => exact (hq : False).elim
  | panic ch => exact (hq : False).elim
  | outgrown => exact (hq : False).elim


theorem AFnUN.start {P : Program} {f : FuncId} {fn : Func} {c : Code} {args : List AV} {objs : List AO} {Q : Value → List AO → Prop} {m : Nat} (hf : P.funcs[f]? = some fn) (hn : fn.ntmps = m) (hb : fn.body = some c) (hnm : (fn.name == "runtime.NumGoroutine") = false)
    (h : ∀ K, AWp P c (fun env os1 => ∃ v os', ResIs P fn env os1 (.val v) ∧ Q v os' ∧ os1.take objs.length = os' ∧ os1[objs.length]? = some (.keep (objs.length + 1) K) ∧ ∀ o ∈ os', o.plain) (fun _ _ _ => False) (fun env os1 => ∃ v os', ResIs P fn env os1 (.val v) ∧ Q v os' ∧ os1.take objs.length = os' ∧ os1[objs.length]? = some (.keep (objs.length + 1) K) ∧ ∀ o ∈ os', o.plain) (Env.start args (m - args.length)) (objs ++ [.keep (objs.length + 1) K])) :
    AFnU P f args objs Q := AFnUN.of hf hb hnm (by rw [hn]) h
theorem ResIs.unit {P : Program} {fn : Func} {env : Env} {os : List AO} (h : fn.results = #[]) : ResIs P fn env os (.val (.tuple #[])) :=
  fun _ _ _ tm hr => ⟨.tuple #[], by unfold results; rw [h]; simp, .val _⟩
end Go.Proofs.Ytkickbnahajpoaa
/-
  Sparse polynomials: a number added to the coefficient of a monomial. No condition.
-/
namespace Go.Proofs.Ytkickbnahajpoaa
open Go Go.RowKit
attribute [local irreducible] AWp AOps ResIs Ret1 QOp LOp COp AFnV AFn Imms LeE LeO
set_option maxHeartbeats 1000000
set_option linter.unusedSimpArgs false
set_option linter.unusedVariables false

/-- The coefficients are numbers of the field. -/
def CoOk (L : List (Int × Int × Int)) : Prop := ∀ t ∈ L, 0 ≤ t.2.2 ∧ t.2.2 ≤ 55440
theorem lookM_ok {L : List (Int × Int × Int)} (h : CoOk L) (i j : Int) : 0 ≤ lookM L i j ∧ lookM L i j ≤ 55440 := by
  unfold lookM
  cases e : L.find? (isK i j) with
  | none => simp
  | some t => exact h t (List.mem_of_find?_eq_some e)
/-- c added to the coefficient of (i, j). -/
def addS (L : List (Int × Int × Int)) (i j c : Int) : List (Int × Int × Int) := putM L i j ((lookM L i j + c) % 55441)

theorem add_c (L : List (Int × Int × Int)) (i j c : Int) (hL : CoOk L) (hc : 0 ≤ c ∧ c ≤ 1000000000000) :
    AFnU Try.prog 36 [.own 0, .i i, .i j, .i c] [.ob (mapOb L)] (fun v os => v = .tuple #[] ∧ os = [.ob (mapOb (addS L i j c))]) := by
  have hl := lookM_ok hL i j
  (refine AFnUN.start Try.func36 Try.ntmps36 rfl (by kernel_rfl) fun K => ?_; simp only [Env.start, enumF, List.length_cons, List.length_nil, Nat.reduceAdd, Nat.reduceSub, List.cons_append, List.nil_append])
  repeat' (first
  | (apply AOps.nil; try simp only [List.nil_append, List.cons_append, List.set_cons_zero, List.set_cons_succ, List.length_cons, List.length_nil, Nat.reduceAdd, AV.sh, AV.sh1, AV.sh0, AO.sh, List.map_cons, List.map_nil, Nat.zero_add, Nat.add_zero, setAll])
  | ((apply AOps.splitP; exact rfl; exact rfl) <;> intro h)
  | ((apply AOps.splitN; exact rfl; exact rfl) <;> intro h)
  | (apply w_move; exact rfl; exact rfl)
  | (apply w_assign; exact rfl; exact rfl)
  | apply AWp.seq
  | apply AWp.region
  | ((apply AWp.condP; exact rfl) <;> intro h)
  | ((apply AWp.condN; exact rfl) <;> intro h)
  | (apply AWp.condT; exact rfl)
  | (apply AWp.condF; exact rfl)
  | ((apply AWp.condB; exact rfl) <;> intro h)
  | apply AWp.block
  | apply AWp.ret
  | apply AWp.exit
  | apply AWp.skip
  | (apply AWp.regionQ; kernel_rfl; kernel_rfl)
  | (apply if_pos'; exact rfl)
  | (apply if_neg'; decide)
  | (apply w_skip; exact rfl)
  | (apply w_pickT; exact rfl; exact rfl; exact rfl)
  | (apply w_pickF; exact rfl; exact rfl; exact rfl)
  | (apply w_len; exact rfl; exact rfl; first | exact .ints _ | exact .intss _ | exact .sli rfl | exact .sls rfl | exact .slr rfl | exact .orow rfl | exact .nil)
  | ((first | apply w_makemap | apply w_bs0); iterate 1 exact rfl)
  | ((first | apply w_mapset | apply w_sllh | apply w_stbi); iterate 4 exact rfl)
  | (apply w_maplook; iterate 5 exact rfl)
  | (apply w_idxarr; exact rfl; exact rfl; exact rfl; decide; decide; exact rfl)
  | omega
  | ((first | apply w_lss | apply w_leq | apply w_gtr | apply w_geq | apply w_eql | apply w_neq | apply w_add | apply w_sub | apply w_mul | apply w_idx | apply w_ld | apply w_fld | apply w_fa | apply w_extv | apply w_min | apply w_max | apply w_slhi | apply w_sllo | apply w_bs2); iterate 3 exact rfl)
  | ((first | apply w_eqlb | apply w_neqb | apply w_idxs | apply w_lds | apply w_ext); iterate 3 exact rfl)
  | (apply w_rem; exact rfl; exact rfl; exact rfl; (focus (omega; done)); (focus (omega; done)))
  | (apply w_quo; exact rfl; exact rfl; exact rfl; (focus (omega; done)); (focus (omega; done)))
  | (apply w_remT; exact rfl; exact rfl; exact rfl)
  | (apply w_quoT; exact rfl; exact rfl; exact rfl)
  | ((first | apply w_not | apply w_neg | apply w_conv | apply w_build0 | apply w_bs1 | apply w_boxa); iterate 2 exact rfl)
  | (apply w_idxo; exact rfl; exact rfl; (first | exact .sli rfl | exact .sls rfl | exact .slr rfl); exact rfl)
  | ((first | apply w_idxr | apply w_ldr); iterate 4 exact rfl)
  | (apply w_ldo; iterate 4 exact rfl)
  | (apply w_ldls; iterate 4 exact rfl)
  | (apply w_ldrp; iterate 4 exact rfl)
  | (apply w_ldb; iterate 5 exact rfl)
  | (apply w_ldst; iterate 5 exact rfl)
  | ((first | apply w_oslo | apply w_oshi | apply w_stbii); iterate 4 exact rfl)
  | (apply w_build1; exact rfl; exact rfl; (first | exact one_val rfl rfl | exact one_ints | exact one_intss | exact one_own rfl True.intro))
  | (apply w_build2; exact rfl; exact rfl; exact rfl; (first | exact one_val rfl rfl | exact one_ints | exact one_intss | exact one_own rfl True.intro); (first | exact one_val rfl rfl | exact one_ints | exact one_intss | exact one_own rfl True.intro))
  | (apply w_appn; exact rfl; exact rfl; (first | exact .ints _ | exact .sli rfl | exact .orow rfl | exact .nil | exact .osub rfl (by simp; omega)); exact rfl)
  | (apply w_app; exact rfl; exact rfl; exact rfl; exact rfl; (first | exact .ints _ | exact .sli rfl | exact .orow rfl | exact .nil | exact .osub rfl (by simp; omega)); rotate_left 1; simp only [Env.mp, List.map_cons, List.map_nil, List.set_cons_zero, List.set_cons_succ, AV.kill, AV.kill1, AO.kill, AV.noRow, AV.noRow1, AO.via, reduceIte, Nat.reduceEqDiff, Nat.reduceLT, Env.up, Nat.zero_ne_one, Nat.one_ne_zero, Nat.reduceAdd, List.cons_append, List.nil_append]; rotate_left 1)
  | (apply w_alst; iterate 2 exact rfl)
  | (apply w_alone; iterate 3 exact rfl)
  | (apply w_sti; exact rfl; exact rfl; rotate_left 1; exact rfl; rotate_left 2)
  | (apply w_stst; iterate 5 exact rfl)
  | (apply w_stbv; iterate 6 exact rfl)
  | (apply w_stbo; exact rfl; exact rfl; exact rfl; exact rfl; exact rfl; exact True.intro)
  | ((apply AOps.splitB; exact rfl; exact rfl) <;> intro h)
  | apply AllOf.nil
  | (apply AllOf.cons; exact rfl)
  | (apply AAny.take; exact rfl; exact rfl; kernel_rfl; kernel_rfl)
  | (apply AAny.all; exact rfl)
  | (apply AAny.done; exact rfl)
  | (apply inI_of <;> omega)
  | omega
  | (simp <;> omega))
  exact ⟨_, _, .unit Try.results36, ⟨rfl, rfl⟩, rfl, rfl, by simp [AO.plain]⟩
end Go.Proofs.Ytkickbnahajpoaa
/-
  Polynomials as functions of their monomials: the plain law of putting in, of adding, of order. No program.
-/
namespace Go.Proofs.Ytkickbnahajpoaa
open Go Go.RowKit

/-- The coefficient of (a, b). -/
def cof : List (List Int) → Int → Int → Int
  | [], _, _ => 0
  | t :: ts, a, b => if geti t 0 = a ∧ geti t 1 = b then geti t 2 else cof ts a b
/-- In strict order. -/
def Srt (ts : List (List Int)) : Prop := ts.Pairwise fun x y => bef (geti y 0) (geti y 1) x
/-- Terms with coefficients other than 0. -/
def TNz (ts : List (List Int)) : Prop := ∀ t ∈ ts, TOk t ∧ 1 ≤ geti t 2

theorem putT_bef {t : List Int} {ts : List (List Int)} {i j c : Int} (h : bef i j t) : putT (t :: ts) i j c = t :: putT ts i j c := by
  have e : putAt (t :: ts) i j = putAt ts i j + 1 := by
    unfold putAt
    rw [List.findIdx_cons]
    simp [h]
  unfold putT
  rw [e]
  simp only [List.getD_cons_succ, List.length_cons, List.take_succ_cons, List.drop_succ_cons, List.set_cons_succ, List.cons_append, Nat.add_lt_add_iff_right]
  split
  · split <;> rfl
  · split <;> rfl
theorem putT_nbef {t : List Int} {ts : List (List Int)} {i j c : Int} (h : ¬ bef i j t) : putT (t :: ts) i j c =
    if geti t 0 = i ∧ geti t 1 = j then (if (geti t 2 + c) % 55441 = 0 then ts else t.set 2 ((geti t 2 + c) % 55441) :: ts) else if c = 0 then t :: ts else [i, j, c] :: t :: ts := by
  have e : putAt (t :: ts) i j = 0 := by
    unfold putAt
    rw [List.findIdx_cons]
    simp [h]
  unfold putT
  rw [e]
  simp
theorem putT_nil {i j c : Int} : putT [] i j c = if c = 0 then [] else [[i, j, c]] := by
  unfold putT
  simp [putAt]

theorem cof_zero {a b : Int} : ∀ {ts : List (List Int)}, (∀ t ∈ ts, ¬ (geti t 0 = a ∧ geti t 1 = b)) → cof ts a b = 0
  | [], _ => rfl
  | t :: ts, h => by
    rw [cof, if_neg (h t (by simp))]
    exact cof_zero fun x hx => h x (by simp [hx])
theorem cof_after {i j : Int} {ts : List (List Int)} (h : ∀ t ∈ ts, ¬ bef i j t ∧ ¬ (geti t 0 = i ∧ geti t 1 = j)) : cof ts i j = 0 := cof_zero fun t ht => (h t ht).2
theorem nbef_after {t : List Int} {ts : List (List Int)} (hs : Srt (t :: ts)) {i j : Int} (h : ¬ bef i j t) : ∀ x ∈ ts, ¬ bef i j x ∧ ¬ (geti x 0 = i ∧ geti x 1 = j) := by
  intro x hx
  have := (List.pairwise_cons.1 hs).1 x hx
  unfold bef at *
  omega

theorem set2 {t : List Int} (h : t.length = 3) (v : Int) : geti (t.set 2 v) 0 = geti t 0 ∧ geti (t.set 2 v) 1 = geti t 1 ∧ geti (t.set 2 v) 2 = v ∧ (t.set 2 v).length = 3 := by
  match t, h with
  | [a, b, c], _ => exact ⟨rfl, rfl, rfl, rfl⟩

theorem cof_put {i j c : Int} (hc : 0 ≤ c ∧ c ≤ 55440) (a b : Int) : ∀ (ts : List (List Int)), Srt ts → (∀ t ∈ ts, TOk t) → cof (putT ts i j c) a b = if a = i ∧ b = j then (cof ts i j + c) % 55441 else cof ts a b
  | [], _, _ => by
    rw [putT_nil]
    split
    · rename_i h; subst h; simp [cof]
    · simp only [cof]
      have e0 : geti [i, j, c] 0 = i := rfl
      have e1 : geti [i, j, c] 1 = j := rfl
      have e2 : geti [i, j, c] 2 = c := rfl
      rw [e0, e1, e2]
      have e3 : (0 + c) % 55441 = c := by omega
      rw [e3]
      by_cases h : a = i ∧ b = j
      · rw [if_pos ⟨h.1.symm, h.2.symm⟩, if_pos h]
      · rw [if_neg (fun h' => h ⟨h'.1.symm, h'.2.symm⟩), if_neg h]
  | t :: ts, hs, ht => by
    have ih := cof_put (i := i) (j := j) hc a b ts (List.pairwise_cons.1 hs).2 (fun x hx => ht x (by simp [hx]))
    by_cases hb : bef i j t
    · have hne : ¬ (geti t 0 = i ∧ geti t 1 = j) := by unfold bef at hb; omega
      rw [putT_bef hb]
      simp only [cof, if_neg hne, ih]
      by_cases h : a = i ∧ b = j
      · rw [if_neg (by rw [h.1, h.2]; exact hne), if_pos h, if_pos h]
      · rw [if_neg h]; simp only [if_neg h]
    · have haf := cof_after (nbef_after hs hb)
      rw [putT_nbef hb]
      by_cases he : geti t 0 = i ∧ geti t 1 = j
      · rw [if_pos he]
        have hst := set2 (ht t (by simp)).1 ((geti t 2 + c) % 55441)
        by_cases hz : (geti t 2 + c) % 55441 = 0
        · rw [if_pos hz]
          simp only [cof, he, and_self, if_true]
          by_cases h : a = i ∧ b = j
          · rw [if_pos h, h.1, h.2, haf, hz]
          · rw [if_neg h, if_neg (fun h' => h ⟨h'.1.symm, h'.2.symm⟩)]
        · rw [if_neg hz]
          simp only [cof, hst.1, hst.2.1, hst.2.2.1, he, and_self, if_true]
          by_cases h : a = i ∧ b = j
          · rw [if_pos h, if_pos ⟨h.1.symm, h.2.symm⟩]
          · rw [if_neg h, if_neg (fun h' => h ⟨h'.1.symm, h'.2.symm⟩)]
            simp only [if_neg (fun h' : i = a ∧ j = b => h ⟨h'.1.symm, h'.2.symm⟩)]
      · rw [if_neg he]
        have h0 : cof (t :: ts) i j = 0 := by rw [cof, if_neg he, haf]
        rw [h0]
        have e3 : (0 + c) % 55441 = c := by omega
        rw [e3]
        split
        · rename_i hc0
          by_cases h : a = i ∧ b = j
          · rw [if_pos h, h.1, h.2, h0, hc0]
          · rw [if_neg h]
        · rw [cof]
          have e0 : geti [i, j, c] 0 = i := rfl
          have e1 : geti [i, j, c] 1 = j := rfl
          have e2 : geti [i, j, c] 2 = c := rfl
          rw [e0, e1, e2]
          by_cases h : a = i ∧ b = j
          · rw [if_pos ⟨h.1.symm, h.2.symm⟩, if_pos h]
          · rw [if_neg (fun h' => h ⟨h'.1.symm, h'.2.symm⟩), if_neg h]

theorem mem_put {i j c : Int} : ∀ (ts : List (List Int)), (∀ t ∈ ts, t.length = 3) → ∀ x ∈ putT ts i j c, x ∈ ts ∨ (geti x 0 = i ∧ geti x 1 = j ∧ x.length = 3 ∧ ((geti x 2 = c ∧ c ≠ 0) ∨ ∃ t ∈ ts, geti x 2 = (geti t 2 + c) % 55441 ∧ geti x 2 ≠ 0))
  | [], _, x, hx => by
    rw [putT_nil] at hx
    split at hx
    · simp at hx
    · rename_i h
      simp only [List.mem_singleton] at hx
      subst hx
      exact .inr ⟨rfl, rfl, rfl, .inl ⟨rfl, h⟩⟩
  | t :: ts, ht, x, hx => by
    by_cases hb : bef i j t
    · rw [putT_bef hb] at hx
      rcases List.mem_cons.1 hx with rfl | hx
      · exact .inl (by simp)
      · rcases mem_put ts (fun y hy => ht y (by simp [hy])) x hx with h | ⟨h1, h2, h3, h4⟩
        · exact .inl (by simp [h])
        · refine .inr ⟨h1, h2, h3, h4.imp id ?_⟩
          rintro ⟨y, hy, h5⟩
          exact ⟨y, by simp [hy], h5⟩
    · rw [putT_nbef hb] at hx
      split at hx
      · rename_i he
        split at hx
        · exact .inl (by simp [hx])
        · rename_i hz
          rcases List.mem_cons.1 hx with rfl | hx
          · have hst := set2 (ht t (by simp)) ((geti t 2 + c) % 55441)
            exact .inr ⟨hst.1.trans he.1, hst.2.1.trans he.2, hst.2.2.2, .inr ⟨t, by simp, hst.2.2.1, by rw [hst.2.2.1]; exact hz⟩⟩
          · exact .inl (by simp [hx])
      · split at hx
        · exact .inl hx
        · rename_i hc
          rcases List.mem_cons.1 hx with rfl | hx
          · exact .inr ⟨rfl, rfl, rfl, .inl ⟨rfl, hc⟩⟩
          · exact .inl hx
theorem nz_put {ts : List (List Int)} {i j c : Int} (h : TNz ts) (hi : 0 ≤ i ∧ i ≤ 100000) (hj : 0 ≤ j ∧ j ≤ 100000) (hc : 0 ≤ c ∧ c ≤ 55440) : TNz (putT ts i j c) := by
  intro x hx
  rcases mem_put ts (fun t ht => (h t ht).1.1) x hx with h1 | ⟨h1, h2, h3, h4⟩
  · exact h x h1
  · unfold TOk
    rcases h4 with ⟨h4, h5⟩ | ⟨t, _, h4, h5⟩
    · omega
    · omega
theorem srt_put {i j c : Int} : ∀ (ts : List (List Int)), Srt ts → (∀ t ∈ ts, t.length = 3) → Srt (putT ts i j c)
  | [], _, _ => by
    rw [putT_nil]
    split
    · exact List.Pairwise.nil
    · exact List.pairwise_singleton _ _
  | t :: ts, hs, ht => by
    have hs2 := List.pairwise_cons.1 hs
    have ih := srt_put (i := i) (j := j) (c := c) ts hs2.2 (fun x hx => ht x (by simp [hx]))
    by_cases hb : bef i j t
    · rw [putT_bef hb]
      refine List.pairwise_cons.2 ⟨fun x hx => ?_, ih⟩
      rcases mem_put ts (fun y hy => ht y (by simp [hy])) x hx with h | ⟨h1, h2, _⟩
      · exact hs2.1 x h
      · rw [h1, h2]; exact hb
    · rw [putT_nbef hb]
      split
      · rename_i he
        split
        · exact hs2.2
        · have hst := set2 (ht t (by simp)) ((geti t 2 + c) % 55441)
          refine List.pairwise_cons.2 ⟨fun x hx => ?_, hs2.2⟩
          have := hs2.1 x hx
          unfold bef at *
          rw [hst.1, hst.2.1]
          exact this
      · rename_i he
        split
        · exact hs
        · refine List.pairwise_cons.2 ⟨fun x hx => ?_, hs⟩
          show bef _ _ [i, j, c]
          have e0 : geti [i, j, c] 0 = i := rfl
          have e1 : geti [i, j, c] 1 = j := rfl
          rcases List.mem_cons.1 hx with rfl | hx
          · unfold bef at *; rw [e0, e1]; omega
          · have := nbef_after hs hb x hx
            unfold bef at *; rw [e0, e1]; omega

/-! ### A list of terms is known by its coefficients -/
def KeyN (ts : List (List Int)) : Prop := ts.Pairwise fun x y => ¬ (geti x 0 = geti y 0 ∧ geti x 1 = geti y 1)
theorem srt_key {ts : List (List Int)} (h : Srt ts) : KeyN ts := h.imp fun {a b} hb => by unfold bef at hb; omega
theorem cof_mem {a b : Int} : ∀ {ts : List (List Int)}, KeyN ts → (∀ t ∈ ts, geti t 2 ≠ 0) → ∀ t ∈ ts, geti t 0 = a → geti t 1 = b → cof ts a b = geti t 2
  | [], _, _, t, ht, _, _ => by simp at ht
  | x :: ts, hk, hn, t, ht, ha, hb => by
    rw [cof]
    rcases List.mem_cons.1 ht with rfl | ht
    · rw [if_pos ⟨ha, hb⟩]
    · have := (List.pairwise_cons.1 hk).1 t ht
      rw [if_neg (by rw [← ha, ← hb]; exact this)]
      exact cof_mem (List.pairwise_cons.1 hk).2 (fun y hy => hn y (by simp [hy])) t ht ha hb
theorem mem_cof {a b : Int} : ∀ {ts : List (List Int)}, cof ts a b ≠ 0 → ∃ t ∈ ts, geti t 0 = a ∧ geti t 1 = b ∧ geti t 2 = cof ts a b
  | [], h => by simp [cof] at h
  | x :: ts, h => by
    rw [cof] at h ⊢
    split
    · rename_i he; exact ⟨x, by simp, he.1, he.2, rfl⟩
    · rename_i he
      rw [if_neg he] at h
      obtain ⟨t, h1, h2⟩ := mem_cof h
      exact ⟨t, by simp [h1], h2⟩
theorem term_ext {x y : List Int} (hx : x.length = 3) (hy : y.length = 3) (h0 : geti x 0 = geti y 0) (h1 : geti x 1 = geti y 1) (h2 : geti x 2 = geti y 2) : x = y := by
  match x, y, hx, hy with
  | [a, b, c], [a', b', c'], _, _ =>
    have : a = a' := h0
    have : b = b' := h1
    have : c = c' := h2
    simp_all
theorem key_nodup {ts : List (List Int)} (h : KeyN ts) : ts.Nodup := h.imp fun {a b} hab e => hab (by rw [e]; exact ⟨rfl, rfl⟩)
theorem cof_uniq {ts us : List (List Int)} (ht : KeyN ts) (hu : KeyN us) (nt : ∀ t ∈ ts, t.length = 3 ∧ geti t 2 ≠ 0) (nu : ∀ t ∈ us, t.length = 3 ∧ geti t 2 ≠ 0) (h : ∀ a b, cof ts a b = cof us a b) : ts.Perm us := by
  have sub : ∀ {xs ys : List (List Int)}, KeyN xs → (∀ t ∈ xs, t.length = 3 ∧ geti t 2 ≠ 0) → (∀ t ∈ ys, t.length = 3 ∧ geti t 2 ≠ 0) → (∀ a b, cof xs a b = cof ys a b) → ∀ x ∈ xs, x ∈ ys := by
    intro xs ys kx nx ny hh x hx
    have e := cof_mem kx (fun t ht => (nx t ht).2) x hx rfl rfl
    rw [hh] at e
    obtain ⟨t, h1, h2, h3, h4⟩ := mem_cof (ts := ys) (a := geti x 0) (b := geti x 1) (by rw [e]; exact (nx x hx).2)
    have : t = x := term_ext (ny t h1).1 (nx x hx).1 h2 h3 (h4.trans e)
    rwa [← this]
  exact (List.perm_ext_iff_of_nodup (key_nodup ht) (key_nodup hu)).2 fun x => ⟨sub ht nt nu h x, sub hu nu nt (fun a b => (h a b).symm) x⟩

/-! ### Maps -/
def KeysN (L : List (Int × Int × Int)) : Prop := L.Pairwise fun x y => ¬ (x.1 = y.1 ∧ x.2.1 = y.2.1)
def rowT (t : Int × Int × Int) : List Int := [t.1, t.2.1, t.2.2]
theorem lookM_nil (a b : Int) : lookM [] a b = 0 := rfl
theorem lookM_cons (t : Int × Int × Int) (L : List (Int × Int × Int)) (a b : Int) : lookM (t :: L) a b = if a = t.1 ∧ b = t.2.1 then t.2.2 else lookM L a b := by
  unfold lookM
  rw [List.find?_cons]
  by_cases h : a = t.1 ∧ b = t.2.1
  · simp [isK, h]
  · simp [isK, h]
theorem putM_nil (i j c : Int) : putM [] i j c = [(i, j, c)] := rfl
theorem putM_cons (t : Int × Int × Int) (L : List (Int × Int × Int)) (i j c : Int) : putM (t :: L) i j c = if i = t.1 ∧ j = t.2.1 then (i, j, c) :: L else t :: putM L i j c := by
  unfold putM
  rw [List.findIdx?_cons]
  by_cases h : i = t.1 ∧ j = t.2.1
  · simp [isK, h]
  · simp only [isK, h, decide_false, Bool.false_eq_true, if_false]
    cases L.findIdx? (isK i j) <;> simp
theorem lookM_put (i j c a b : Int) : ∀ L : List (Int × Int × Int), lookM (putM L i j c) a b = if a = i ∧ b = j then c else lookM L a b
  | [] => by rw [putM_nil, lookM_cons, lookM_nil]
  | t :: L => by
    rw [putM_cons]
    by_cases h : i = t.1 ∧ j = t.2.1
    · rw [if_pos h, lookM_cons, lookM_cons]
      by_cases h2 : a = i ∧ b = j
      · simp [h2]
      · rw [if_neg h2, if_neg h2, if_neg (by rw [← h.1, ← h.2]; exact h2)]
    · rw [if_neg h, lookM_cons, lookM_cons, lookM_put i j c a b L]
      by_cases h2 : a = i ∧ b = j
      · rw [if_pos h2, if_neg (by rw [h2.1, h2.2]; exact h)]; simp [h2]
      · rw [if_neg h2]; simp only [if_neg h2]
theorem mem_putM {i j c : Int} : ∀ {L : List (Int × Int × Int)}, ∀ x ∈ putM L i j c, x ∈ L ∨ x = (i, j, c)
  | [], x, hx => by rw [putM_nil] at hx; simp at hx; exact .inr hx
  | t :: L, x, hx => by
    rw [putM_cons] at hx
    split at hx
    · rcases List.mem_cons.1 hx with rfl | hx
      · exact .inr rfl
      · exact .inl (by simp [hx])
    · rcases List.mem_cons.1 hx with rfl | hx
      · exact .inl (by simp)
      · exact (mem_putM x hx).imp (fun h => by simp [h]) id
theorem keys_put {i j c : Int} : ∀ {L : List (Int × Int × Int)}, KeysN L → KeysN (putM L i j c)
  | [], _ => List.pairwise_singleton _ _
  | t :: L, h => by
    have h2 := List.pairwise_cons.1 h
    rw [putM_cons]
    split
    · rename_i he
      exact List.pairwise_cons.2 ⟨fun x hx => by have := h2.1 x hx; simp only [he.1, he.2]; exact this, h2.2⟩
    · rename_i he
      refine List.pairwise_cons.2 ⟨fun x hx => ?_, keys_put h2.2⟩
      rcases mem_putM x hx with h3 | rfl
      · exact h2.1 x h3
      · exact fun h4 => he ⟨h4.1.symm, h4.2.symm⟩
theorem co_add {L : List (Int × Int × Int)} (h : CoOk L) (i j c : Int) : CoOk (addS L i j c) := by
  intro t ht
  rcases mem_putM t ht with h1 | rfl
  · exact h t h1
  · show 0 ≤ (lookM L i j + c) % 55441 ∧ (lookM L i j + c) % 55441 ≤ 55440
    omega
theorem look_add (L : List (Int × Int × Int)) (i j c a b : Int) : lookM (addS L i j c) a b = if a = i ∧ b = j then (lookM L i j + c) % 55441 else lookM L a b := lookM_put i j _ a b L
theorem keys_add {L : List (Int × Int × Int)} (h : KeysN L) (i j c : Int) : KeysN (addS L i j c) := keys_put h

/-- The rows of the entries whose number is not 0. -/
def rowsNz (L : List (Int × Int × Int)) : List (List Int) := (L.filter fun t => decide (t.2.2 ≠ 0)).map rowT
theorem cof_rows : ∀ {L : List (Int × Int × Int)}, KeysN L → ∀ a b, cof (rowsNz L) a b = lookM L a b
  | [], _, _, _ => rfl
  | t :: L, h, a, b => by
    have h2 := List.pairwise_cons.1 h
    have ih := cof_rows h2.2 a b
    rw [lookM_cons]
    unfold rowsNz at ih ⊢
    rw [List.filter_cons]
    by_cases hz : t.2.2 = 0
    · simp only [hz, ne_eq, not_true_eq_false, decide_false, Bool.false_eq_true, if_false, ih]
      split
      · rename_i he
        unfold lookM
        rw [List.find?_eq_none.2]
        intro x hx
        have := h2.1 x hx
        simp only [isK, decide_eq_true_eq]
        rw [he.1, he.2]
        exact this
      · rfl
    · simp only [ne_eq, hz, not_false_eq_true, decide_true, if_true, List.map_cons, cof, ih]
      have e0 : geti (rowT t) 0 = t.1 := rfl
      have e1 : geti (rowT t) 1 = t.2.1 := rfl
      have e2 : geti (rowT t) 2 = t.2.2 := rfl
      rw [e0, e1, e2]
      by_cases he : a = t.1 ∧ b = t.2.1
      · rw [if_pos he, if_pos ⟨he.1.symm, he.2.symm⟩]
      · rw [if_neg he, if_neg (fun h' => he ⟨h'.1.symm, h'.2.symm⟩)]
theorem rows_key {L : List (Int × Int × Int)} (h : KeysN L) : KeyN (rowsNz L) := by
  unfold rowsNz KeyN
  rw [List.pairwise_map]
  exact (h.filter _).imp fun {a b} hab => hab
theorem rows_nz {L : List (Int × Int × Int)} : ∀ t ∈ rowsNz L, t.length = 3 ∧ geti t 2 ≠ 0 := by
  intro t ht
  obtain ⟨x, hx, rfl⟩ := List.mem_map.1 ht
  refine ⟨rfl, ?_⟩
  have := (List.mem_filter.1 hx).2
  show x.2.2 ≠ 0
  simpa using this
/-- The rows of a map are those of the ordered list with the same coefficients. -/
theorem rows_perm {L : List (Int × Int × Int)} {ts : List (List Int)} (hL : KeysN L) (hs : Srt ts) (hn : TNz ts) (h : ∀ a b, cof ts a b = lookM L a b) : (rowsNz L).Perm ts :=
  cof_uniq (rows_key hL) (srt_key hs) rows_nz (fun t ht => ⟨(hn t ht).1.1, by have := (hn t ht).2; omega⟩) fun a b => (cof_rows hL a b).trans (h a b).symm
end Go.Proofs.Ytkickbnahajpoaa
/-
  Sparse polynomials: made of terms. No condition.
-/
namespace Go.Proofs.Ytkickbnahajpoaa
open Go Go.RowKit
attribute [local irreducible] AWp AOps ResIs Ret1 QOp LOp COp AFnV AFn Imms LeE LeO
set_option maxHeartbeats 1000000
set_option linter.unusedSimpArgs false
set_option linter.unusedVariables false

theorem isNumber_c (n : Int) : AFnV Try.prog 34 [.i n] (.bool (decide (0 ≤ n ∧ n ≤ 55440))) := by
  (refine AFnV.start Try.func34 Try.ntmps34 rfl (by kernel_rfl) fun hk => ?_; simp only [Env.start, enumF, List.length_cons, List.length_nil, Nat.reduceAdd, Nat.reduceSub, List.cons_append, List.nil_append])
  repeat' (first
  | (apply AOps.nil; try simp only [List.nil_append, List.cons_append, List.set_cons_zero, List.set_cons_succ, List.length_cons, List.length_nil, Nat.reduceAdd, AV.sh, AV.sh1, AV.sh0, AO.sh, List.map_cons, List.map_nil, Nat.zero_add, Nat.add_zero, setAll])
  | ((apply AOps.splitP; exact rfl; exact rfl) <;> intro h)
  | ((apply AOps.splitN; exact rfl; exact rfl) <;> intro h)
  | (apply w_move; exact rfl; exact rfl)
  | (apply w_assign; exact rfl; exact rfl)
  | apply AWp.seq
  | apply AWp.region
  | ((apply AWp.condP; exact rfl) <;> intro h)
  | ((apply AWp.condN; exact rfl) <;> intro h)
  | (apply AWp.condT; exact rfl)
  | (apply AWp.condF; exact rfl)
  | ((apply AWp.condB; exact rfl) <;> intro h)
  | apply AWp.block
  | apply AWp.ret
  | apply AWp.exit
  | apply AWp.skip
  | (apply AWp.regionQ; kernel_rfl; kernel_rfl)
  | (apply if_pos'; exact rfl)
  | (apply if_neg'; decide)
  | (apply w_skip; exact rfl)
  | (apply w_pickT; exact rfl; exact rfl; exact rfl)
  | (apply w_pickF; exact rfl; exact rfl; exact rfl)
  | (apply w_len; exact rfl; exact rfl; first | exact .ints _ | exact .intss _ | exact .sli rfl | exact .sls rfl | exact .slr rfl | exact .orow rfl | exact .nil)
  | (apply w_call (inRange_c _ _ _); exact rfl; exact rfl; focus ((repeat (first | exact im_nil | refine im_cons rfl (.val _) ?_ | refine im_cons rfl (.ints _) ?_ | refine im_cons rfl (.intss _) ?_ | refine im_cons rfl (.sli rfl) ?_ | refine im_cons rfl (.sls rfl) ?_ | refine im_cons rfl (.orow rfl) ?_ | refine im_cons rfl (.osub rfl (by simp; omega)) ?_ | refine im_cons rfl (.nil) ?_ | refine im_cons rfl (.nils) ?_ | refine im_cons rfl (im_agg2 (.val _) (.ints _)) ?_ | refine im_cons rfl (im_agg2 (.val _) (.sli rfl)) ?_ | refine im_cons rfl (im_agg2 (.val _) (.nil)) ?_ | refine im_cons rfl (im_agg2 (.ints _) (.intss _)) ?_ | refine im_cons rfl (im_agg2 (.ints _) (.sls rfl)) ?_ | refine im_cons rfl (im_agg2 (.sli rfl) (.intss _)) ?_ | refine im_cons rfl (im_agg2 (.sli rfl) (.sls rfl)) ?_ | refine im_cons rfl (im_agg1 (.ints _)) ?_ | refine im_cons rfl (im_agg1 (.sli rfl)) ?_ | refine im_cons rfl (im_agg1 (.intss _)) ?_ | refine im_cons rfl (im_agg1 (.sls rfl)) ?_ | refine im_cons rfl (im_agg1 (.nil)) ?_ | refine im_cons rfl (im_agg1 (.nils)) ?_)); done))
  | ((first | apply w_lss | apply w_leq | apply w_gtr | apply w_geq | apply w_eql | apply w_neq | apply w_add | apply w_sub | apply w_mul | apply w_idx | apply w_ld | apply w_fld | apply w_fa | apply w_extv | apply w_min | apply w_max | apply w_slhi | apply w_sllo | apply w_bs2); iterate 3 exact rfl)
  | ((first | apply w_eqlb | apply w_neqb | apply w_idxs | apply w_lds | apply w_ext); iterate 3 exact rfl)
  | (apply w_rem; exact rfl; exact rfl; exact rfl; (focus (omega; done)); (focus (omega; done)))
  | (apply w_quo; exact rfl; exact rfl; exact rfl; (focus (omega; done)); (focus (omega; done)))
  | (apply w_remT; exact rfl; exact rfl; exact rfl)
  | (apply w_quoT; exact rfl; exact rfl; exact rfl)
  | ((first | apply w_not | apply w_neg | apply w_conv | apply w_build0 | apply w_bs1 | apply w_boxa); iterate 2 exact rfl)
  | (apply w_idxo; exact rfl; exact rfl; (first | exact .sli rfl | exact .sls rfl | exact .slr rfl); exact rfl)
  | ((first | apply w_idxr | apply w_ldr); iterate 4 exact rfl)
  | (apply w_ldo; iterate 4 exact rfl)
  | (apply w_ldls; iterate 4 exact rfl)
  | (apply w_ldrp; iterate 4 exact rfl)
  | (apply w_ldb; iterate 5 exact rfl)
  | (apply w_ldst; iterate 5 exact rfl)
  | ((first | apply w_sllh | apply w_stbi); iterate 4 exact rfl)
  | ((first | apply w_oslo | apply w_oshi | apply w_stbii); iterate 4 exact rfl)
  | (apply w_build1; exact rfl; exact rfl; (first | exact one_val rfl rfl | exact one_ints | exact one_intss | exact one_own rfl True.intro))
  | (apply w_build2; exact rfl; exact rfl; exact rfl; (first | exact one_val rfl rfl | exact one_ints | exact one_intss | exact one_own rfl True.intro); (first | exact one_val rfl rfl | exact one_ints | exact one_intss | exact one_own rfl True.intro))
  | (apply w_bs0; iterate 1 exact rfl)
  | (apply w_appn; exact rfl; exact rfl; (first | exact .ints _ | exact .sli rfl | exact .orow rfl | exact .nil | exact .osub rfl (by simp; omega)); exact rfl)
  | (apply w_app; exact rfl; exact rfl; exact rfl; exact rfl; (first | exact .ints _ | exact .sli rfl | exact .orow rfl | exact .nil | exact .osub rfl (by simp; omega)); rotate_left 1; simp only [Env.mp, List.map_cons, List.map_nil, List.set_cons_zero, List.set_cons_succ, AV.kill, AV.kill1, AO.kill, AV.noRow, AV.noRow1, AO.via, reduceIte, Nat.reduceEqDiff, Nat.reduceLT, Env.up, Nat.zero_ne_one, Nat.one_ne_zero, Nat.reduceAdd, List.cons_append, List.nil_append]; rotate_left 1)
  | (apply w_alst; iterate 2 exact rfl)
  | (apply w_alone; iterate 3 exact rfl)
  | (apply w_sti; exact rfl; exact rfl; rotate_left 1; exact rfl; rotate_left 2)
  | (apply w_stst; iterate 5 exact rfl)
  | (apply w_stbv; iterate 6 exact rfl)
  | (apply w_stbo; exact rfl; exact rfl; exact rfl; exact rfl; exact rfl; exact True.intro)
  | ((apply AOps.splitB; exact rfl; exact rfl) <;> intro h)
  | apply AllOf.nil
  | (apply AllOf.cons; exact rfl)
  | (apply AAny.take; exact rfl; exact rfl; kernel_rfl; kernel_rfl)
  | (apply AAny.all; exact rfl)
  | (apply AAny.done; exact rfl)
  | (apply inI_of <;> omega)
  | omega
  | (simp <;> omega))
  all_goals exact .bool Try.results34 rfl rfl

def toT (t : List Int) : Int × Int × Int := (geti t 0, geti t 1, geti t 2)
theorem look_toT (ts : List (List Int)) (a b : Int) : lookM (ts.map toT) a b = cof ts a b := by
  induction ts with
  | nil => rfl
  | cons t ts ih =>
    rw [List.map_cons, lookM_cons, cof, ih]
    have : (a = geti t 0 ∧ b = geti t 1) ↔ (geti t 0 = a ∧ geti t 1 = b) := ⟨fun h => ⟨h.1.symm, h.2.symm⟩, fun h => ⟨h.1.symm, h.2.symm⟩⟩
    simp only [toT, this]
theorem keys_toT {ts : List (List Int)} (h : Srt ts) : KeysN (ts.map toT) := by
  unfold KeysN
  rw [List.pairwise_map]
  exact (srt_key h).imp fun {a b} hab => hab
end Go.Proofs.Ytkickbnahajpoaa
/-
  The laws' helpers that write marks into a result and look for them. No condition but a bound on the sizes.
-/
namespace Go.Proofs.Ytkickbnahajpoaa
open Go Go.RowKit
attribute [local irreducible] AWp AOps ResIs Ret1 QOp LOp COp AFnV AFn Imms LeE LeO
set_option maxHeartbeats 1000000
set_option linter.unusedSimpArgs false
set_option linter.unusedVariables false

/-- k, k + 1, .. -/
def iota (k : Int) (n : Nat) : List Int := (List.range n).map fun i => k + (i : Nat)
theorem iota_len (k : Int) (n : Nat) : (iota k n).length = n := by simp [iota]
theorem iota_get (k : Int) (n i : Nat) (h : i < n) : geti (iota k n) i = k + i := by simp [geti, iota, h]

theorem mark_step (k : Int) (xs : List Int) (i : Nat) (h : i < xs.length) : (iota k i ++ xs.drop i).set i (k + i) = iota k (i + 1) ++ xs.drop (i + 1) := by
  rw [List.set_append_right _ _ (by rw [iota_len]; exact Nat.le_refl _), iota_len, Nat.sub_self, List.drop_eq_getElem_cons h, List.set_cons_zero]
  simp [iota, List.range_succ]

theorem markInt64S_c (T : TypeId) (xs : List Int) (k : Int) (hq : 0 ≤ k ∧ k ≤ 9007199254740992) (hl : xs.length ≤ 9007199254740992) : AFnU Try.prog 50 [.own 0, .i k] [.sli T xs] (fun v os => v = .int .i64 (k + xs.length) ∧ os = [.sli T (iota k xs.length)]) := by
  (refine AFnU.start Try.func50 Try.ntmps50 rfl (by kernel_rfl) fun K => ?_; simp only [Env.start, enumF, List.length_cons, List.length_nil, Nat.reduceAdd, Nat.reduceSub, List.cons_append, List.nil_append])
  repeat' (first
  | (apply AOps.nil; try simp only [List.nil_append, List.cons_append, List.set_cons_zero, List.set_cons_succ, List.length_cons, List.length_nil, Nat.reduceAdd, AV.sh, AV.sh1, AV.sh0, AO.sh, List.map_cons, List.map_nil, Nat.zero_add, Nat.add_zero, setAll])
  | ((apply AOps.splitP; exact rfl; exact rfl) <;> intro h)
  | ((apply AOps.splitN; exact rfl; exact rfl) <;> intro h)
  | (apply w_move; exact rfl; exact rfl)
  | (apply w_assign; exact rfl; exact rfl)
  | apply AWp.seq
  | apply AWp.region
  | ((apply AWp.condP; exact rfl) <;> intro h)
  | ((apply AWp.condN; exact rfl) <;> intro h)
  | (apply AWp.condT; exact rfl)
  | (apply AWp.condF; exact rfl)
  | ((apply AWp.condB; exact rfl) <;> intro h)
  | apply AWp.block
  | apply AWp.ret
  | apply AWp.exit
  | apply AWp.skip
  | (apply AWp.regionQ; kernel_rfl; kernel_rfl)
  | (apply if_pos'; exact rfl)
  | (apply if_neg'; decide)
  | (apply w_skip; exact rfl)
  | (apply w_pickT; exact rfl; exact rfl; exact rfl)
  | (apply w_pickF; exact rfl; exact rfl; exact rfl)
  | (apply w_len; exact rfl; exact rfl; first | exact .ints _ | exact .intss _ | exact .sli rfl | exact .sls rfl | exact .slr rfl | exact .orow rfl | exact .nil)
  | ((first | apply w_lss | apply w_leq | apply w_gtr | apply w_geq | apply w_eql | apply w_neq | apply w_add | apply w_sub | apply w_mul | apply w_idx | apply w_ld | apply w_fld | apply w_fa | apply w_extv | apply w_min | apply w_max | apply w_slhi | apply w_sllo | apply w_bs2); iterate 3 exact rfl)
  | ((first | apply w_eqlb | apply w_neqb | apply w_idxs | apply w_lds | apply w_ext); iterate 3 exact rfl)
  | (apply w_rem; exact rfl; exact rfl; exact rfl; (focus (omega; done)); (focus (omega; done)))
  | (apply w_quo; exact rfl; exact rfl; exact rfl; (focus (omega; done)); (focus (omega; done)))
  | (apply w_remT; exact rfl; exact rfl; exact rfl)
  | (apply w_quoT; exact rfl; exact rfl; exact rfl)
  | ((first | apply w_not | apply w_neg | apply w_conv | apply w_build0 | apply w_bs1 | apply w_boxa); iterate 2 exact rfl)
  | (apply w_idxo; exact rfl; exact rfl; (first | exact .sli rfl | exact .sls rfl | exact .slr rfl); exact rfl)
  | ((first | apply w_idxr | apply w_ldr); iterate 4 exact rfl)
  | (apply w_ldo; iterate 4 exact rfl)
  | (apply w_ldls; iterate 4 exact rfl)
  | (apply w_ldrp; iterate 4 exact rfl)
  | (apply w_ldb; iterate 5 exact rfl)
  | (apply w_ldst; iterate 5 exact rfl)
  | ((first | apply w_sllh | apply w_stbi); iterate 4 exact rfl)
  | ((first | apply w_oslo | apply w_oshi | apply w_stbii); iterate 4 exact rfl)
  | (apply w_copy; exact rfl; (first | exact .own rfl rfl rfl | exact .osub); exact rfl; rotate_left 1; exact rfl; (first | exact .ints _ | exact .sli rfl | exact .orow rfl | exact .nil | exact .osub rfl (by simp; omega)))
  | (apply w_build1; exact rfl; exact rfl; (first | exact one_val rfl rfl | exact one_ints | exact one_intss | exact one_own rfl True.intro))
  | (apply w_build2; exact rfl; exact rfl; exact rfl; (first | exact one_val rfl rfl | exact one_ints | exact one_intss | exact one_own rfl True.intro); (first | exact one_val rfl rfl | exact one_ints | exact one_intss | exact one_own rfl True.intro))
  | (apply w_bs0; iterate 1 exact rfl)
  | (apply w_appn; exact rfl; exact rfl; (first | exact .ints _ | exact .sli rfl | exact .orow rfl | exact .nil | exact .osub rfl (by simp; omega)); exact rfl)
  | (apply w_app; exact rfl; exact rfl; exact rfl; exact rfl; (first | exact .ints _ | exact .sli rfl | exact .orow rfl | exact .nil | exact .osub rfl (by simp; omega)); rotate_left 1; simp only [Env.mp, List.map_cons, List.map_nil, List.set_cons_zero, List.set_cons_succ, AV.kill, AV.kill1, AO.kill, AV.noRow, AV.noRow1, AO.via, reduceIte, Nat.reduceEqDiff, Nat.reduceLT, Env.up, Nat.zero_ne_one, Nat.one_ne_zero, Nat.reduceAdd, List.cons_append, List.nil_append]; rotate_left 1)
  | (apply w_alst; iterate 2 exact rfl)
  | (apply w_alone; iterate 3 exact rfl)
  | (apply w_mki; exact rfl; exact rfl; rotate_left 3; exact rfl; rotate_left 1)
  | (apply w_mkr; exact rfl; exact rfl; rotate_left 3; exact rfl; rotate_left 1)
  | (apply w_strow; exact rfl; exact rfl; rotate_left 1; exact rfl; exact rfl; exact rfl; exact rfl; simp only [Env.mp, List.map_cons, List.map_nil, List.set_cons_zero, List.set_cons_succ, AV.kill, AV.kill1, AO.kill, AV.noRow, AV.noRow1, AO.via, reduceIte, Nat.reduceEqDiff, Nat.reduceLT, Env.up, Nat.zero_ne_one, Nat.one_ne_zero, Nat.reduceAdd, List.cons_append, List.nil_append]; rotate_left 1)
  | (apply w_sti; exact rfl; exact rfl; rotate_left 1; exact rfl; rotate_left 2)
  | (apply w_stst; iterate 5 exact rfl)
  | (apply w_stbv; iterate 6 exact rfl)
  | (apply w_stbo; exact rfl; exact rfl; exact rfl; exact rfl; exact rfl; exact True.intro)
  | ((apply AOps.splitB; exact rfl; exact rfl) <;> intro h)
  | apply AllOf.nil
  | (apply AllOf.cons; exact rfl)
  | (apply AAny.take; exact rfl; exact rfl; kernel_rfl; kernel_rfl)
  | (apply AAny.all; exact rfl)
  | (apply AAny.done; exact rfl)
  | (apply inI_of <;> omega)
  | omega
  | (simp <;> omega))
  refine AWp.loop (ι := Nat) (fun i => ⟨19, [(0, .own 0), (1, .i (k + i)), (5, .i i)]⟩) (fun i => [.sli T (iota k i ++ xs.drop i), .keep 2 K]) (fun i => i ≤ xs.length) (fun i => xs.length - i) 0 (by omega) ⟨lee rfl (le_eq rfl rfl (le_eq rfl (congrArg AV.i (by omega)) (le_eq rfl rfl le_nil))), lo_eq (by simp [iota]) (lo_eq rfl lo_nil), rfl, rfl⟩ ?_
  rintro i h0
  have e1 : (iota k i ++ xs.drop i).length = xs.length := by simp [iota_len]; omega
  repeat' (first
  | (apply AOps.nil; try simp only [List.nil_append, List.cons_append, List.set_cons_zero, List.set_cons_succ, List.length_cons, List.length_nil, Nat.reduceAdd, AV.sh, AV.sh1, AV.sh0, AO.sh, List.map_cons, List.map_nil, Nat.zero_add, Nat.add_zero, setAll])
  | ((apply AOps.splitP; exact rfl; exact rfl) <;> intro h)
  | ((apply AOps.splitN; exact rfl; exact rfl) <;> intro h)
  | (apply w_move; exact rfl; exact rfl)
  | (apply w_assign; exact rfl; exact rfl)
  | apply AWp.seq
  | apply AWp.region
  | ((apply AWp.condP; exact rfl) <;> intro h)
  | ((apply AWp.condN; exact rfl) <;> intro h)
  | (apply AWp.condT; exact rfl)
  | (apply AWp.condF; exact rfl)
  | ((apply AWp.condB; exact rfl) <;> intro h)
  | apply AWp.block
  | apply AWp.ret
  | apply AWp.exit
  | apply AWp.skip
  | (apply AWp.regionQ; kernel_rfl; kernel_rfl)
  | (apply if_pos'; exact rfl)
  | (apply if_neg'; decide)
  | (apply w_skip; exact rfl)
  | (apply w_pickT; exact rfl; exact rfl; exact rfl)
  | (apply w_pickF; exact rfl; exact rfl; exact rfl)
  | (apply w_len; exact rfl; exact rfl; first | exact .ints _ | exact .intss _ | exact .sli rfl | exact .sls rfl | exact .slr rfl | exact .orow rfl | exact .nil)
  | ((first | apply w_lss | apply w_leq | apply w_gtr | apply w_geq | apply w_eql | apply w_neq | apply w_add | apply w_sub | apply w_mul | apply w_idx | apply w_ld | apply w_fld | apply w_fa | apply w_extv | apply w_min | apply w_max | apply w_slhi | apply w_sllo | apply w_bs2); iterate 3 exact rfl)
  | ((first | apply w_eqlb | apply w_neqb | apply w_idxs | apply w_lds | apply w_ext); iterate 3 exact rfl)
  | (apply w_rem; exact rfl; exact rfl; exact rfl; (focus (omega; done)); (focus (omega; done)))
  | (apply w_quo; exact rfl; exact rfl; exact rfl; (focus (omega; done)); (focus (omega; done)))
  | (apply w_remT; exact rfl; exact rfl; exact rfl)
  | (apply w_quoT; exact rfl; exact rfl; exact rfl)
  | ((first | apply w_not | apply w_neg | apply w_conv | apply w_build0 | apply w_bs1 | apply w_boxa); iterate 2 exact rfl)
  | (apply w_idxo; exact rfl; exact rfl; (first | exact .sli rfl | exact .sls rfl | exact .slr rfl); exact rfl)
  | ((first | apply w_idxr | apply w_ldr); iterate 4 exact rfl)
  | (apply w_ldo; iterate 4 exact rfl)
  | (apply w_ldls; iterate 4 exact rfl)
  | (apply w_ldrp; iterate 4 exact rfl)
  | (apply w_ldb; iterate 5 exact rfl)
  | (apply w_ldst; iterate 5 exact rfl)
  | ((first | apply w_sllh | apply w_stbi); iterate 4 exact rfl)
  | ((first | apply w_oslo | apply w_oshi | apply w_stbii); iterate 4 exact rfl)
  | (apply w_copy; exact rfl; (first | exact .own rfl rfl rfl | exact .osub); exact rfl; rotate_left 1; exact rfl; (first | exact .ints _ | exact .sli rfl | exact .orow rfl | exact .nil | exact .osub rfl (by simp; omega)))
  | (apply w_build1; exact rfl; exact rfl; (first | exact one_val rfl rfl | exact one_ints | exact one_intss | exact one_own rfl True.intro))
  | (apply w_build2; exact rfl; exact rfl; exact rfl; (first | exact one_val rfl rfl | exact one_ints | exact one_intss | exact one_own rfl True.intro); (first | exact one_val rfl rfl | exact one_ints | exact one_intss | exact one_own rfl True.intro))
  | (apply w_bs0; iterate 1 exact rfl)
  | (apply w_appn; exact rfl; exact rfl; (first | exact .ints _ | exact .sli rfl | exact .orow rfl | exact .nil | exact .osub rfl (by simp; omega)); exact rfl)
  | (apply w_app; exact rfl; exact rfl; exact rfl; exact rfl; (first | exact .ints _ | exact .sli rfl | exact .orow rfl | exact .nil | exact .osub rfl (by simp; omega)); rotate_left 1; simp only [Env.mp, List.map_cons, List.map_nil, List.set_cons_zero, List.set_cons_succ, AV.kill, AV.kill1, AO.kill, AV.noRow, AV.noRow1, AO.via, reduceIte, Nat.reduceEqDiff, Nat.reduceLT, Env.up, Nat.zero_ne_one, Nat.one_ne_zero, Nat.reduceAdd, List.cons_append, List.nil_append]; rotate_left 1)
  | (apply w_alst; iterate 2 exact rfl)
  | (apply w_alone; iterate 3 exact rfl)
  | (apply w_mki; exact rfl; exact rfl; rotate_left 3; exact rfl; rotate_left 1)
  | (apply w_mkr; exact rfl; exact rfl; rotate_left 3; exact rfl; rotate_left 1)
  | (apply w_strow; exact rfl; exact rfl; rotate_left 1; exact rfl; exact rfl; exact rfl; exact rfl; simp only [Env.mp, List.map_cons, List.map_nil, List.set_cons_zero, List.set_cons_succ, AV.kill, AV.kill1, AO.kill, AV.noRow, AV.noRow1, AO.via, reduceIte, Nat.reduceEqDiff, Nat.reduceLT, Env.up, Nat.zero_ne_one, Nat.one_ne_zero, Nat.reduceAdd, List.cons_append, List.nil_append]; rotate_left 1)
  | (apply w_sti; exact rfl; exact rfl; rotate_left 1; exact rfl; rotate_left 2)
  | (apply w_stst; iterate 5 exact rfl)
  | (apply w_stbv; iterate 6 exact rfl)
  | (apply w_stbo; exact rfl; exact rfl; exact rfl; exact rfl; exact rfl; exact True.intro)
  | ((apply AOps.splitB; exact rfl; exact rfl) <;> intro h)
  | apply AllOf.nil
  | (apply AllOf.cons; exact rfl)
  | (apply AAny.take; exact rfl; exact rfl; kernel_rfl; kernel_rfl)
  | (apply AAny.all; exact rfl)
  | (apply AAny.done; exact rfl)
  | (apply inI_of <;> omega)
  | omega
  | (simp <;> omega))
  · have e2 : (iota k i ++ xs.drop i).set ((i : Int)).toNat (k + i) = iota k (i + 1) ++ xs.drop (i + 1) := mark_step k xs i (by omega)
    exact ⟨i + 1, by omega, by omega, ⟨lee rfl (by (repeat (first | exact le_nil | refine le_eq rfl rfl ?_ | refine le_eq rfl (congrArg AV.i (by omega)) ?_ | refine le_eq rfl (congrArg AV.i (e2)) ?_))), by (repeat (first | exact lo_nil | refine lo_dead ?_ | refine lo_eq rfl ?_ | refine lo_eq (congrArg (AO.sli _) (e2)) ?_ | refine lo_eq (congrArg (AO.sls _ _) (e2)) ?_)), rfl, rfl⟩⟩
  · have e : i = xs.length := by omega
    subst e
    exact ⟨_, _, .int Try.results50 rfl rfl, ⟨rfl, rfl⟩, by simp, rfl, by simp [AO.plain]⟩

theorem heldInt64S_c (n : Nat) (k : Int) (hq : 0 ≤ k ∧ k ≤ 9007199254740992) (hl : n ≤ 9007199254740992) : AFnV Try.prog 51 [.ints (iota k n), .i k] (.int .i64 (k + n)) := by
  (refine AFnV.start Try.func51 Try.ntmps51 rfl (by kernel_rfl) fun hk => ?_; simp only [Env.start, enumF, List.length_cons, List.length_nil, Nat.reduceAdd, Nat.reduceSub, List.cons_append, List.nil_append])
  repeat' (first
  | (apply AOps.nil; try simp only [List.nil_append, List.cons_append, List.set_cons_zero, List.set_cons_succ, List.length_cons, List.length_nil, Nat.reduceAdd, AV.sh, AV.sh1, AV.sh0, AO.sh, List.map_cons, List.map_nil, Nat.zero_add, Nat.add_zero, setAll])
  | ((apply AOps.splitP; exact rfl; exact rfl) <;> intro h)
  | ((apply AOps.splitN; exact rfl; exact rfl) <;> intro h)
  | (apply w_move; exact rfl; exact rfl)
  | (apply w_assign; exact rfl; exact rfl)
  | apply AWp.seq
  | apply AWp.region
  | ((apply AWp.condP; exact rfl) <;> intro h)
  | ((apply AWp.condN; exact rfl) <;> intro h)
  | (apply AWp.condT; exact rfl)
  | (apply AWp.condF; exact rfl)
  | ((apply AWp.condB; exact rfl) <;> intro h)
  | apply AWp.block
  | apply AWp.ret
  | apply AWp.exit
  | apply AWp.skip
  | (apply AWp.regionQ; kernel_rfl; kernel_rfl)
  | (apply if_pos'; exact rfl)
  | (apply if_neg'; decide)
  | (apply w_skip; exact rfl)
  | (apply w_pickT; exact rfl; exact rfl; exact rfl)
  | (apply w_pickF; exact rfl; exact rfl; exact rfl)
  | (apply w_len; exact rfl; exact rfl; first | exact .ints _ | exact .intss _ | exact .sli rfl | exact .sls rfl | exact .slr rfl | exact .orow rfl | exact .nil)
  | ((first | apply w_lss | apply w_leq | apply w_gtr | apply w_geq | apply w_eql | apply w_neq | apply w_add | apply w_sub | apply w_mul | apply w_idx | apply w_ld | apply w_fld | apply w_fa | apply w_extv | apply w_min | apply w_max | apply w_slhi | apply w_sllo | apply w_bs2); iterate 3 exact rfl)
  | ((first | apply w_eqlb | apply w_neqb | apply w_idxs | apply w_lds | apply w_ext); iterate 3 exact rfl)
  | (apply w_rem; exact rfl; exact rfl; exact rfl; (focus (omega; done)); (focus (omega; done)))
  | (apply w_quo; exact rfl; exact rfl; exact rfl; (focus (omega; done)); (focus (omega; done)))
  | (apply w_remT; exact rfl; exact rfl; exact rfl)
  | (apply w_quoT; exact rfl; exact rfl; exact rfl)
  | ((first | apply w_not | apply w_neg | apply w_conv | apply w_build0 | apply w_bs1 | apply w_boxa); iterate 2 exact rfl)
  | (apply w_idxo; exact rfl; exact rfl; (first | exact .sli rfl | exact .sls rfl | exact .slr rfl); exact rfl)
  | ((first | apply w_idxr | apply w_ldr); iterate 4 exact rfl)
  | (apply w_ldo; iterate 4 exact rfl)
  | (apply w_ldls; iterate 4 exact rfl)
  | (apply w_ldrp; iterate 4 exact rfl)
  | (apply w_ldb; iterate 5 exact rfl)
  | (apply w_ldst; iterate 5 exact rfl)
  | ((first | apply w_sllh | apply w_stbi); iterate 4 exact rfl)
  | ((first | apply w_oslo | apply w_oshi | apply w_stbii); iterate 4 exact rfl)
  | (apply w_copy; exact rfl; (first | exact .own rfl rfl rfl | exact .osub); exact rfl; rotate_left 1; exact rfl; (first | exact .ints _ | exact .sli rfl | exact .orow rfl | exact .nil | exact .osub rfl (by simp; omega)))
  | (apply w_build1; exact rfl; exact rfl; (first | exact one_val rfl rfl | exact one_ints | exact one_intss | exact one_own rfl True.intro))
  | (apply w_build2; exact rfl; exact rfl; exact rfl; (first | exact one_val rfl rfl | exact one_ints | exact one_intss | exact one_own rfl True.intro); (first | exact one_val rfl rfl | exact one_ints | exact one_intss | exact one_own rfl True.intro))
  | (apply w_bs0; iterate 1 exact rfl)
  | (apply w_appn; exact rfl; exact rfl; (first | exact .ints _ | exact .sli rfl | exact .orow rfl | exact .nil | exact .osub rfl (by simp; omega)); exact rfl)
  | (apply w_app; exact rfl; exact rfl; exact rfl; exact rfl; (first | exact .ints _ | exact .sli rfl | exact .orow rfl | exact .nil | exact .osub rfl (by simp; omega)); rotate_left 1; simp only [Env.mp, List.map_cons, List.map_nil, List.set_cons_zero, List.set_cons_succ, AV.kill, AV.kill1, AO.kill, AV.noRow, AV.noRow1, AO.via, reduceIte, Nat.reduceEqDiff, Nat.reduceLT, Env.up, Nat.zero_ne_one, Nat.one_ne_zero, Nat.reduceAdd, List.cons_append, List.nil_append]; rotate_left 1)
  | (apply w_alst; iterate 2 exact rfl)
  | (apply w_alone; iterate 3 exact rfl)
  | (apply w_mki; exact rfl; exact rfl; rotate_left 3; exact rfl; rotate_left 1)
  | (apply w_mkr; exact rfl; exact rfl; rotate_left 3; exact rfl; rotate_left 1)
  | (apply w_strow; exact rfl; exact rfl; rotate_left 1; exact rfl; exact rfl; exact rfl; exact rfl; simp only [Env.mp, List.map_cons, List.map_nil, List.set_cons_zero, List.set_cons_succ, AV.kill, AV.kill1, AO.kill, AV.noRow, AV.noRow1, AO.via, reduceIte, Nat.reduceEqDiff, Nat.reduceLT, Env.up, Nat.zero_ne_one, Nat.one_ne_zero, Nat.reduceAdd, List.cons_append, List.nil_append]; rotate_left 1)
  | (apply w_sti; exact rfl; exact rfl; rotate_left 1; exact rfl; rotate_left 2)
  | (apply w_stst; iterate 5 exact rfl)
  | (apply w_stbv; iterate 6 exact rfl)
  | (apply w_stbo; exact rfl; exact rfl; exact rfl; exact rfl; exact rfl; exact True.intro)
  | ((apply AOps.splitB; exact rfl; exact rfl) <;> intro h)
  | apply AllOf.nil
  | (apply AllOf.cons; exact rfl)
  | (apply AAny.take; exact rfl; exact rfl; kernel_rfl; kernel_rfl)
  | (apply AAny.all; exact rfl)
  | (apply AAny.done; exact rfl)
  | (apply inI_of <;> omega)
  | omega
  | (simp <;> omega))
  refine AWp.loop (ι := Nat) (fun i => ⟨21, [(0, .ints (iota k n)), (1, .i (k + i)), (5, .i i)]⟩) (fun i => []) (fun i => i ≤ n) (fun i => n - i) 0 (by omega) ⟨lee rfl (by (repeat (first | exact le_nil | refine le_eq rfl rfl ?_ | refine le_eq rfl (congrArg AV.i (by omega)) ?_))), by (repeat (first | exact lo_nil | refine lo_dead ?_ | refine lo_eq rfl ?_)), rfl, rfl⟩ ?_
  rintro i h0
  have e1 := iota_len k n
  repeat' (first
  | (apply AOps.nil; try simp only [List.nil_append, List.cons_append, List.set_cons_zero, List.set_cons_succ, List.length_cons, List.length_nil, Nat.reduceAdd, AV.sh, AV.sh1, AV.sh0, AO.sh, List.map_cons, List.map_nil, Nat.zero_add, Nat.add_zero, setAll])
  | ((apply AOps.splitP; exact rfl; exact rfl) <;> intro h)
  | ((apply AOps.splitN; exact rfl; exact rfl) <;> intro h)
  | (apply w_move; exact rfl; exact rfl)
  | (apply w_assign; exact rfl; exact rfl)
  | apply AWp.seq
  | apply AWp.region
  | ((apply AWp.condP; exact rfl) <;> intro h)
  | ((apply AWp.condN; exact rfl) <;> intro h)
  | (apply AWp.condT; exact rfl)
  | (apply AWp.condF; exact rfl)
  | ((apply AWp.condB; exact rfl) <;> intro h)
  | apply AWp.block
  | apply AWp.ret
  | apply AWp.exit
  | apply AWp.skip
  | (apply AWp.regionQ; kernel_rfl; kernel_rfl)
  | (apply if_pos'; exact rfl)
  | (apply if_neg'; decide)
  | (apply w_skip; exact rfl)
  | (apply w_pickT; exact rfl; exact rfl; exact rfl)
  | (apply w_pickF; exact rfl; exact rfl; exact rfl)
  | (apply w_len; exact rfl; exact rfl; first | exact .ints _ | exact .intss _ | exact .sli rfl | exact .sls rfl | exact .slr rfl | exact .orow rfl | exact .nil)
  | ((first | apply w_lss | apply w_leq | apply w_gtr | apply w_geq | apply w_eql | apply w_neq | apply w_add | apply w_sub | apply w_mul | apply w_idx | apply w_ld | apply w_fld | apply w_fa | apply w_extv | apply w_min | apply w_max | apply w_slhi | apply w_sllo | apply w_bs2); iterate 3 exact rfl)
  | ((first | apply w_eqlb | apply w_neqb | apply w_idxs | apply w_lds | apply w_ext); iterate 3 exact rfl)
  | (apply w_rem; exact rfl; exact rfl; exact rfl; (focus (omega; done)); (focus (omega; done)))
  | (apply w_quo; exact rfl; exact rfl; exact rfl; (focus (omega; done)); (focus (omega; done)))
  | (apply w_remT; exact rfl; exact rfl; exact rfl)
  | (apply w_quoT; exact rfl; exact rfl; exact rfl)
  | ((first | apply w_not | apply w_neg | apply w_conv | apply w_build0 | apply w_bs1 | apply w_boxa); iterate 2 exact rfl)
  | (apply w_idxo; exact rfl; exact rfl; (first | exact .sli rfl | exact .sls rfl | exact .slr rfl); exact rfl)
  | ((first | apply w_idxr | apply w_ldr); iterate 4 exact rfl)
  | (apply w_ldo; iterate 4 exact rfl)
  | (apply w_ldls; iterate 4 exact rfl)
  | (apply w_ldrp; iterate 4 exact rfl)
  | (apply w_ldb; iterate 5 exact rfl)
  | (apply w_ldst; iterate 5 exact rfl)
  | ((first | apply w_sllh | apply w_stbi); iterate 4 exact rfl)
  | ((first | apply w_oslo | apply w_oshi | apply w_stbii); iterate 4 exact rfl)
  | (apply w_copy; exact rfl; (first | exact .own rfl rfl rfl | exact .osub); exact rfl; rotate_left 1; exact rfl; (first | exact .ints _ | exact .sli rfl | exact .orow rfl | exact .nil | exact .osub rfl (by simp; omega)))
  | (apply w_build1; exact rfl; exact rfl; (first | exact one_val rfl rfl | exact one_ints | exact one_intss | exact one_own rfl True.intro))
  | (apply w_build2; exact rfl; exact rfl; exact rfl; (first | exact one_val rfl rfl | exact one_ints | exact one_intss | exact one_own rfl True.intro); (first | exact one_val rfl rfl | exact one_ints | exact one_intss | exact one_own rfl True.intro))
  | (apply w_bs0; iterate 1 exact rfl)
  | (apply w_appn; exact rfl; exact rfl; (first | exact .ints _ | exact .sli rfl | exact .orow rfl | exact .nil | exact .osub rfl (by simp; omega)); exact rfl)
  | (apply w_app; exact rfl; exact rfl; exact rfl; exact rfl; (first | exact .ints _ | exact .sli rfl | exact .orow rfl | exact .nil | exact .osub rfl (by simp; omega)); rotate_left 1; simp only [Env.mp, List.map_cons, List.map_nil, List.set_cons_zero, List.set_cons_succ, AV.kill, AV.kill1, AO.kill, AV.noRow, AV.noRow1, AO.via, reduceIte, Nat.reduceEqDiff, Nat.reduceLT, Env.up, Nat.zero_ne_one, Nat.one_ne_zero, Nat.reduceAdd, List.cons_append, List.nil_append]; rotate_left 1)
  | (apply w_alst; iterate 2 exact rfl)
  | (apply w_alone; iterate 3 exact rfl)
  | (apply w_mki; exact rfl; exact rfl; rotate_left 3; exact rfl; rotate_left 1)
  | (apply w_mkr; exact rfl; exact rfl; rotate_left 3; exact rfl; rotate_left 1)
  | (apply w_strow; exact rfl; exact rfl; rotate_left 1; exact rfl; exact rfl; exact rfl; exact rfl; simp only [Env.mp, List.map_cons, List.map_nil, List.set_cons_zero, List.set_cons_succ, AV.kill, AV.kill1, AO.kill, AV.noRow, AV.noRow1, AO.via, reduceIte, Nat.reduceEqDiff, Nat.reduceLT, Env.up, Nat.zero_ne_one, Nat.one_ne_zero, Nat.reduceAdd, List.cons_append, List.nil_append]; rotate_left 1)
  | (apply w_sti; exact rfl; exact rfl; rotate_left 1; exact rfl; rotate_left 2)
  | (apply w_stst; iterate 5 exact rfl)
  | (apply w_stbv; iterate 6 exact rfl)
  | (apply w_stbo; exact rfl; exact rfl; exact rfl; exact rfl; exact rfl; exact True.intro)
  | ((apply AOps.splitB; exact rfl; exact rfl) <;> intro h)
  | apply AllOf.nil
  | (apply AllOf.cons; exact rfl)
  | (apply AAny.take; exact rfl; exact rfl; kernel_rfl; kernel_rfl)
  | (apply AAny.all; exact rfl)
  | (apply AAny.done; exact rfl)
  | (apply inI_of <;> omega)
  | omega
  | (simp <;> omega))
  · exact absurd (iota_get k n i (by omega)) (by assumption)
  · exact ⟨i + 1, by omega, by omega, ⟨lee rfl (by (repeat (first | exact le_nil | refine le_eq rfl rfl ?_ | refine le_eq rfl (congrArg AV.i (by omega)) ?_))), by (repeat (first | exact lo_nil | refine lo_dead ?_ | refine lo_eq rfl ?_)), rfl, rfl⟩⟩
  · have e : i = n := by omega
    subst e
    exact .int Try.results51 rfl rfl

end Go.Proofs.Ytkickbnahajpoaa
