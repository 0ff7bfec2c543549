/-
  Parts of the proof, one behind the other: contracts of functions and plain laws. No condition.
-/
import Derived.Maps.RangeRun
import Derived.ChangeKeysEq
import GoSem.Instr.MapUpdate
import GoSem.Instr.MakeMap
import Derived.OrdersHeld
import Derived.Shelf.SlSortCmp.Whole1
import Derived.Test.YtifkgmbghcmdeaaProg
import Derived.WalkKit
import Derived.Deep.LoopGhost
import Derived.Deep.Draws
import Derived.Lib.Walk
import Derived.Lib.Small
import Derived.Lib.Slices
import Derived.Shelf.RegionOpenPlain
import Derived.Deep.QuietTactic
import Derived.Test.YtifkgmbghcmdeaaPt2IsNondegener
/-
  Inverses in the field of 55441 elements: the walks. No condition.
-/
namespace Go.Proofs.Ytifkgmbghcmdeaa
open Go Go.RowKit
attribute [local irreducible] AWp AOps ResIs Ret1 QOp LOp COp AFnV AFn Imms LeE LeO
set_option maxHeartbeats 1000000
set_option linter.unusedSimpArgs false
set_option linter.unusedVariables false

theorem inverse_c (z : Int) (hz : 0 ≤ z ∧ z ≤ 55440) : AFnV Try.prog 84 [.i z] (.int .i64 (pwF z 55439)) := by
  (refine AFnV.start Try.func84 Try.ntmps84 rfl (by kernel_rfl) fun hk => ?_; simp only [Env.start, enumF, List.length_cons, List.length_nil, Nat.reduceAdd, Nat.reduceSub, List.cons_append, List.nil_append])
  repeat' (first
  | (apply AOps.nil; try simp only [List.nil_append, List.cons_append, List.set_cons_zero, List.set_cons_succ, List.length_cons, List.length_nil, Nat.reduceAdd, AV.sh, AV.sh1, AV.sh0, AO.sh, List.map_cons, List.map_nil, Nat.zero_add, Nat.add_zero, setAll])
  | ((apply AOps.splitP; exact rfl; exact rfl) <;> intro h)
  | ((apply AOps.splitN; exact rfl; exact rfl) <;> intro h)
  | (apply w_move; exact rfl; exact rfl)
  | (apply w_assign; exact rfl; exact rfl)
  | apply AWp.seq
  | apply AWp.region
  | ((apply AWp.condP; exact rfl) <;> intro h)
  | ((apply AWp.condN; exact rfl) <;> intro h)
  | (apply AWp.condT; exact rfl)
  | (apply AWp.condF; exact rfl)
  | ((apply AWp.condB; exact rfl) <;> intro h)
  | apply AWp.block
  | apply AWp.ret
  | apply AWp.exit
  | apply AWp.skip
  | (apply AWp.regionQ; kernel_rfl; kernel_rfl)
  | (apply if_pos'; exact rfl)
  | (apply if_neg'; decide)
  | (apply w_skip; exact rfl)
  | (apply w_pickT; exact rfl; exact rfl; exact rfl)
  | (apply w_pickF; exact rfl; exact rfl; exact rfl)
  | (apply w_len; exact rfl; exact rfl; first | exact .ints _ | exact .intss _ | exact .sli rfl | exact .sls rfl | exact .slr rfl | exact .orow rfl | exact .nil)
  | (apply w_call (power_c z 55439 hz (by omega)); exact rfl; exact rfl; focus ((repeat (first | exact im_nil | refine im_cons rfl (.val _) ?_ | refine im_cons rfl (.ints _) ?_ | refine im_cons rfl (.intss _) ?_ | refine im_cons rfl (.sli rfl) ?_ | refine im_cons rfl (.sls rfl) ?_ | refine im_cons rfl (.orow rfl) ?_ | refine im_cons rfl (.osub rfl (by simp; omega)) ?_ | refine im_cons rfl (.nil) ?_ | refine im_cons rfl (.nils) ?_ | refine im_cons rfl (im_agg2 (.val _) (.ints _)) ?_ | refine im_cons rfl (im_agg2 (.val _) (.sli rfl)) ?_ | refine im_cons rfl (im_agg2 (.val _) (.nil)) ?_ | refine im_cons rfl (im_agg2 (.ints _) (.intss _)) ?_ | refine im_cons rfl (im_agg2 (.ints _) (.sls rfl)) ?_ | refine im_cons rfl (im_agg2 (.sli rfl) (.intss _)) ?_ | refine im_cons rfl (im_agg2 (.sli rfl) (.sls rfl)) ?_ | refine im_cons rfl (im_agg1 (.ints _)) ?_ | refine im_cons rfl (im_agg1 (.sli rfl)) ?_ | refine im_cons rfl (im_agg1 (.intss _)) ?_ | refine im_cons rfl (im_agg1 (.sls rfl)) ?_ | refine im_cons rfl (im_agg1 (.nil)) ?_ | refine im_cons rfl (im_agg1 (.nils)) ?_)); done))
  | ((first | apply w_lss | apply w_leq | apply w_gtr | apply w_geq | apply w_eql | apply w_neq | apply w_add | apply w_sub | apply w_mul | apply w_idx | apply w_ld | apply w_fld | apply w_fa | apply w_extv | apply w_min | apply w_max | apply w_slhi | apply w_sllo | apply w_bs2); iterate 3 exact rfl)
  | ((first | apply w_eqlb | apply w_neqb | apply w_idxs | apply w_lds | apply w_ext); iterate 3 exact rfl)
  | (apply w_rem; exact rfl; exact rfl; exact rfl; (focus (omega; done)); (focus (omega; done)))
  | (apply w_quo; exact rfl; exact rfl; exact rfl; (focus (omega; done)); (focus (omega; done)))
  | (apply w_remT; exact rfl; exact rfl; exact rfl)
  | (apply w_quoT; exact rfl; exact rfl; exact rfl)
  | ((first | apply w_not | apply w_neg | apply w_conv | apply w_build0 | apply w_bs1 | apply w_boxa); iterate 2 exact rfl)
  | (apply w_idxo; exact rfl; exact rfl; (first | exact .sli rfl | exact .sls rfl | exact .slr rfl); exact rfl)
  | ((first | apply w_idxr | apply w_ldr); iterate 4 exact rfl)
  | (apply w_ldo; iterate 4 exact rfl)
  | (apply w_ldls; iterate 4 exact rfl)
  | (apply w_ldrp; iterate 4 exact rfl)
  | (apply w_ldb; iterate 5 exact rfl)
  | (apply w_ldst; iterate 5 exact rfl)
  | ((first | apply w_sllh | apply w_stbi); iterate 4 exact rfl)
  | ((first | apply w_oslo | apply w_oshi | apply w_stbii); iterate 4 exact rfl)
  | (apply w_copy; exact rfl; (first | exact .own rfl rfl rfl | exact .osub); exact rfl; rotate_left 1; exact rfl; (first | exact .ints _ | exact .sli rfl | exact .orow rfl | exact .nil | exact .osub rfl (by simp; omega)))
  | (apply w_build1; exact rfl; exact rfl; (first | exact one_val rfl rfl | exact one_ints | exact one_intss | exact one_own rfl True.intro))
  | (apply w_build2; exact rfl; exact rfl; exact rfl; (first | exact one_val rfl rfl | exact one_ints | exact one_intss | exact one_own rfl True.intro); (first | exact one_val rfl rfl | exact one_ints | exact one_intss | exact one_own rfl True.intro))
  | (apply w_bs0; iterate 1 exact rfl)
  | (apply w_appn; exact rfl; exact rfl; (first | exact .ints _ | exact .sli rfl | exact .orow rfl | exact .nil | exact .osub rfl (by simp; omega)); exact rfl)
  | (apply w_app; exact rfl; exact rfl; exact rfl; exact rfl; (first | exact .ints _ | exact .sli rfl | exact .orow rfl | exact .nil | exact .osub rfl (by simp; omega)); rotate_left 1; simp only [Env.mp, List.map_cons, List.map_nil, List.set_cons_zero, List.set_cons_succ, AV.kill, AV.kill1, AO.kill, AV.noRow, AV.noRow1, AO.via, reduceIte, Nat.reduceEqDiff, Nat.reduceLT, Env.up, Nat.zero_ne_one, Nat.one_ne_zero, Nat.reduceAdd, List.cons_append, List.nil_append]; rotate_left 1)
  | (apply w_alst; iterate 2 exact rfl)
  | (apply w_alone; iterate 3 exact rfl)
  | (apply w_mki; exact rfl; exact rfl; rotate_left 3; exact rfl; rotate_left 1)
  | (apply w_mkr; exact rfl; exact rfl; rotate_left 3; exact rfl; rotate_left 1)
  | (apply w_strow; exact rfl; exact rfl; rotate_left 1; exact rfl; exact rfl; exact rfl; exact rfl; simp only [Env.mp, List.map_cons, List.map_nil, List.set_cons_zero, List.set_cons_succ, AV.kill, AV.kill1, AO.kill, AV.noRow, AV.noRow1, AO.via, reduceIte, Nat.reduceEqDiff, Nat.reduceLT, Env.up, Nat.zero_ne_one, Nat.one_ne_zero, Nat.reduceAdd, List.cons_append, List.nil_append]; rotate_left 1)
  | (apply w_sti; exact rfl; exact rfl; rotate_left 1; exact rfl; rotate_left 2)
  | (apply w_stst; iterate 5 exact rfl)
  | (apply w_stbv; iterate 6 exact rfl)
  | (apply w_stbo; exact rfl; exact rfl; exact rfl; exact rfl; exact rfl; exact True.intro)
  | ((apply AOps.splitB; exact rfl; exact rfl) <;> intro h)
  | apply AllOf.nil
  | (apply AllOf.cons; exact rfl)
  | (apply AAny.take; exact rfl; exact rfl; kernel_rfl; kernel_rfl)
  | (apply AAny.all; exact rfl)
  | (apply AAny.done; exact rfl)
  | (apply inI_of <;> omega)
  | omega
  | (simp <;> omega))
  all_goals exact .int Try.results84 rfl rfl
theorem l17Inverse_c (z : Int) (hz : 0 ≤ z ∧ z ≤ 55440) : AFnV Try.prog 93 [.i z] (.int .i64 (pwF z 55439)) := by
  (refine AFnV.start Try.func93 Try.ntmps93 rfl (by kernel_rfl) fun hk => ?_; simp only [Env.start, enumF, List.length_cons, List.length_nil, Nat.reduceAdd, Nat.reduceSub, List.cons_append, List.nil_append])
  repeat' (first
  | (apply AOps.nil; try simp only [List.nil_append, List.cons_append, List.set_cons_zero, List.set_cons_succ, List.length_cons, List.length_nil, Nat.reduceAdd, AV.sh, AV.sh1, AV.sh0, AO.sh, List.map_cons, List.map_nil, Nat.zero_add, Nat.add_zero, setAll])
  | ((apply AOps.splitP; exact rfl; exact rfl) <;> intro h)
  | ((apply AOps.splitN; exact rfl; exact rfl) <;> intro h)
  | (apply w_move; exact rfl; exact rfl)
  | (apply w_assign; exact rfl; exact rfl)
  | apply AWp.seq
  | apply AWp.region
  | ((apply AWp.condP; exact rfl) <;> intro h)
  | ((apply AWp.condN; exact rfl) <;> intro h)
  | (apply AWp.condT; exact rfl)
  | (apply AWp.condF; exact rfl)
  | ((apply AWp.condB; exact rfl) <;> intro h)
  | apply AWp.block
  | apply AWp.ret
  | apply AWp.exit
  | apply AWp.skip
  | (apply AWp.regionQ; kernel_rfl; kernel_rfl)
  | (apply if_pos'; exact rfl)
  | (apply if_neg'; decide)
  | (apply w_skip; exact rfl)
  | (apply w_pickT; exact rfl; exact rfl; exact rfl)
  | (apply w_pickF; exact rfl; exact rfl; exact rfl)
  | (apply w_len; exact rfl; exact rfl; first | exact .ints _ | exact .intss _ | exact .sli rfl | exact .sls rfl | exact .slr rfl | exact .orow rfl | exact .nil)
  | ((first | apply w_lss | apply w_leq | apply w_gtr | apply w_geq | apply w_eql | apply w_neq | apply w_add | apply w_sub | apply w_mul | apply w_idx | apply w_ld | apply w_fld | apply w_fa | apply w_extv | apply w_min | apply w_max | apply w_slhi | apply w_sllo | apply w_bs2); iterate 3 exact rfl)
  | ((first | apply w_eqlb | apply w_neqb | apply w_idxs | apply w_lds | apply w_ext); iterate 3 exact rfl)
  | (apply w_rem; exact rfl; exact rfl; exact rfl; (focus (omega; done)); (focus (omega; done)))
  | (apply w_quo; exact rfl; exact rfl; exact rfl; (focus (omega; done)); (focus (omega; done)))
  | (apply w_remT; exact rfl; exact rfl; exact rfl)
  | (apply w_quoT; exact rfl; exact rfl; exact rfl)
  | ((first | apply w_not | apply w_neg | apply w_conv | apply w_build0 | apply w_bs1 | apply w_boxa); iterate 2 exact rfl)
  | (apply w_idxo; exact rfl; exact rfl; (first | exact .sli rfl | exact .sls rfl | exact .slr rfl); exact rfl)
  | ((first | apply w_idxr | apply w_ldr); iterate 4 exact rfl)
  | (apply w_ldo; iterate 4 exact rfl)
  | (apply w_ldls; iterate 4 exact rfl)
  | (apply w_ldrp; iterate 4 exact rfl)
  | (apply w_ldb; iterate 5 exact rfl)
  | (apply w_ldst; iterate 5 exact rfl)
  | ((first | apply w_sllh | apply w_stbi); iterate 4 exact rfl)
  | ((first | apply w_oslo | apply w_oshi | apply w_stbii); iterate 4 exact rfl)
  | (apply w_copy; exact rfl; (first | exact .own rfl rfl rfl | exact .osub); exact rfl; rotate_left 1; exact rfl; (first | exact .ints _ | exact .sli rfl | exact .orow rfl | exact .nil | exact .osub rfl (by simp; omega)))
  | (apply w_build1; exact rfl; exact rfl; (first | exact one_val rfl rfl | exact one_ints | exact one_intss | exact one_own rfl True.intro))
  | (apply w_build2; exact rfl; exact rfl; exact rfl; (first | exact one_val rfl rfl | exact one_ints | exact one_intss | exact one_own rfl True.intro); (first | exact one_val rfl rfl | exact one_ints | exact one_intss | exact one_own rfl True.intro))
  | (apply w_bs0; iterate 1 exact rfl)
  | (apply w_appn; exact rfl; exact rfl; (first | exact .ints _ | exact .sli rfl | exact .orow rfl | exact .nil | exact .osub rfl (by simp; omega)); exact rfl)
  | (apply w_app; exact rfl; exact rfl; exact rfl; exact rfl; (first | exact .ints _ | exact .sli rfl | exact .orow rfl | exact .nil | exact .osub rfl (by simp; omega)); rotate_left 1; simp only [Env.mp, List.map_cons, List.map_nil, List.set_cons_zero, List.set_cons_succ, AV.kill, AV.kill1, AO.kill, AV.noRow, AV.noRow1, AO.via, reduceIte, Nat.reduceEqDiff, Nat.reduceLT, Env.up, Nat.zero_ne_one, Nat.one_ne_zero, Nat.reduceAdd, List.cons_append, List.nil_append]; rotate_left 1)
  | (apply w_alst; iterate 2 exact rfl)
  | (apply w_alone; iterate 3 exact rfl)
  | (apply w_mki; exact rfl; exact rfl; rotate_left 3; exact rfl; rotate_left 1)
  | (apply w_mkr; exact rfl; exact rfl; rotate_left 3; exact rfl; rotate_left 1)
  | (apply w_strow; exact rfl; exact rfl; rotate_left 1; exact rfl; exact rfl; exact rfl; exact rfl; simp only [Env.mp, List.map_cons, List.map_nil, List.set_cons_zero, List.set_cons_succ, AV.kill, AV.kill1, AO.kill, AV.noRow, AV.noRow1, AO.via, reduceIte, Nat.reduceEqDiff, Nat.reduceLT, Env.up, Nat.zero_ne_one, Nat.one_ne_zero, Nat.reduceAdd, List.cons_append, List.nil_append]; rotate_left 1)
  | (apply w_sti; exact rfl; exact rfl; rotate_left 1; exact rfl; rotate_left 2)
  | (apply w_stst; iterate 5 exact rfl)
  | (apply w_stbv; iterate 6 exact rfl)
  | (apply w_stbo; exact rfl; exact rfl; exact rfl; exact rfl; exact rfl; exact True.intro)
  | ((apply AOps.splitB; exact rfl; exact rfl) <;> intro h)
  | apply AllOf.nil
  | (apply AllOf.cons; exact rfl)
  | (apply AAny.take; exact rfl; exact rfl; kernel_rfl; kernel_rfl)
  | (apply AAny.all; exact rfl)
  | (apply AAny.done; exact rfl)
  | (apply inI_of <;> omega)
  | omega
  | (simp <;> omega))
  refine AWp.loop (ι := Int × Int × Int) (fun s => ⟨21, [(0, .i s.1), (4, .i s.2.1), (3, .i s.2.2)]⟩) (fun _ => []) (fun s => (0 ≤ s.1 ∧ s.1 ≤ 55440) ∧ (0 ≤ s.2.1 ∧ s.2.1 ≤ 4611686018427387904) ∧ (0 ≤ s.2.2 ∧ s.2.2 ≤ 55440) ∧ s.2.2 * s.1 ^ s.2.1.toNat % 55441 = pwF z 55439) (fun s => s.2.1.toNat) (z, 55439, 1) ⟨hz, by simp, by simp, by unfold pwF; dsimp only; rw [Int.one_mul]⟩ ⟨lee rfl (by (repeat (first | exact le_nil | refine le_eq rfl rfl ?_ | refine le_eq rfl (congrArg AV.i (by omega)) ?_))), by (repeat (first | exact lo_nil | refine lo_dead ?_ | refine lo_eq rfl ?_)), rfl, rfl⟩ ?_
  rintro ⟨x, k, o⟩ ⟨h0, h1, h2, h3⟩
  simp only at h0 h1 h2 h3
  have b1 := mulB h2.1 h2.2 h0.1 h0.2
  have b2 := mulB h0.1 h0.2 h0.1 h0.2
  have b3 := modF (o * x)
  have b4 := modF (x * x)
  repeat' (first
  | (apply AOps.nil; try simp only [List.nil_append, List.cons_append, List.set_cons_zero, List.set_cons_succ, List.length_cons, List.length_nil, Nat.reduceAdd, AV.sh, AV.sh1, AV.sh0, AO.sh, List.map_cons, List.map_nil, Nat.zero_add, Nat.add_zero, setAll])
  | ((apply AOps.splitP; exact rfl; exact rfl) <;> intro h)
  | ((apply AOps.splitN; exact rfl; exact rfl) <;> intro h)
  | (apply w_move; exact rfl; exact rfl)
  | (apply w_assign; exact rfl; exact rfl)
  | apply AWp.seq
  | apply AWp.region
  | ((apply AWp.condP; exact rfl) <;> intro h)
  | ((apply AWp.condN; exact rfl) <;> intro h)
  | (apply AWp.condT; exact rfl)
  | (apply AWp.condF; exact rfl)
  | ((apply AWp.condB; exact rfl) <;> intro h)
  | apply AWp.block
  | apply AWp.ret
  | apply AWp.exit
  | apply AWp.skip
  | (apply AWp.regionQ; kernel_rfl; kernel_rfl)
  | (apply if_pos'; exact rfl)
  | (apply if_neg'; decide)
  | (apply w_skip; exact rfl)
  | (apply w_pickT; exact rfl; exact rfl; exact rfl)
  | (apply w_pickF; exact rfl; exact rfl; exact rfl)
  | (apply w_len; exact rfl; exact rfl; first | exact .ints _ | exact .intss _ | exact .sli rfl | exact .sls rfl | exact .slr rfl | exact .orow rfl | exact .nil)
  | ((first | apply w_lss | apply w_leq | apply w_gtr | apply w_geq | apply w_eql | apply w_neq | apply w_add | apply w_sub | apply w_mul | apply w_idx | apply w_ld | apply w_fld | apply w_fa | apply w_extv | apply w_min | apply w_max | apply w_slhi | apply w_sllo | apply w_bs2); iterate 3 exact rfl)
  | ((first | apply w_eqlb | apply w_neqb | apply w_idxs | apply w_lds | apply w_ext); iterate 3 exact rfl)
  | (apply w_rem; exact rfl; exact rfl; exact rfl; (focus (omega; done)); (focus (omega; done)))
  | (apply w_quo; exact rfl; exact rfl; exact rfl; (focus (omega; done)); (focus (omega; done)))
  | (apply w_remT; exact rfl; exact rfl; exact rfl)
  | (apply w_quoT; exact rfl; exact rfl; exact rfl)
  | ((first | apply w_not | apply w_neg | apply w_conv | apply w_build0 | apply w_bs1 | apply w_boxa); iterate 2 exact rfl)
  | (apply w_idxo; exact rfl; exact rfl; (first | exact .sli rfl | exact .sls rfl | exact .slr rfl); exact rfl)
  | ((first | apply w_idxr | apply w_ldr); iterate 4 exact rfl)
  | (apply w_ldo; iterate 4 exact rfl)
  | (apply w_ldls; iterate 4 exact rfl)
  | (apply w_ldrp; iterate 4 exact rfl)
  | (apply w_ldb; iterate 5 exact rfl)
  | (apply w_ldst; iterate 5 exact rfl)
  | ((first | apply w_sllh | apply w_stbi); iterate 4 exact rfl)
  | ((first | apply w_oslo | apply w_oshi | apply w_stbii); iterate 4 exact rfl)
  | (apply w_copy; exact rfl; (first | exact .own rfl rfl rfl | exact .osub); exact rfl; rotate_left 1; exact rfl; (first | exact .ints _ | exact .sli rfl | exact .orow rfl | exact .nil | exact .osub rfl (by simp; omega)))
  | (apply w_build1; exact rfl; exact rfl; (first | exact one_val rfl rfl | exact one_ints | exact one_intss | exact one_own rfl True.intro))
  | (apply w_build2; exact rfl; exact rfl; exact rfl; (first | exact one_val rfl rfl | exact one_ints | exact one_intss | exact one_own rfl True.intro); (first | exact one_val rfl rfl | exact one_ints | exact one_intss | exact one_own rfl True.intro))
  | (apply w_bs0; iterate 1 exact rfl)
  | (apply w_appn; exact rfl; exact rfl; (first | exact .ints _ | exact .sli rfl | exact .orow rfl | exact .nil | exact .osub rfl (by simp; omega)); exact rfl)
  | (apply w_app; exact rfl; exact rfl; exact rfl; exact rfl; (first | exact .ints _ | exact .sli rfl | exact .orow rfl | exact .nil | exact .osub rfl (by simp; omega)); rotate_left 1; simp only [Env.mp, List.map_cons, List.map_nil, List.set_cons_zero, List.set_cons_succ, AV.kill, AV.kill1, AO.kill, AV.noRow, AV.noRow1, AO.via, reduceIte, Nat.reduceEqDiff, Nat.reduceLT, Env.up, Nat.zero_ne_one, Nat.one_ne_zero, Nat.reduceAdd, List.cons_append, List.nil_append]; rotate_left 1)
  | (apply w_alst; iterate 2 exact rfl)
  | (apply w_alone; iterate 3 exact rfl)
  | (apply w_mki; exact rfl; exact rfl; rotate_left 3; exact rfl; rotate_left 1)
  | (apply w_mkr; exact rfl; exact rfl; rotate_left 3; exact rfl; rotate_left 1)
  | (apply w_strow; exact rfl; exact rfl; rotate_left 1; exact rfl; exact rfl; exact rfl; exact rfl; simp only [Env.mp, List.map_cons, List.map_nil, List.set_cons_zero, List.set_cons_succ, AV.kill, AV.kill1, AO.kill, AV.noRow, AV.noRow1, AO.via, reduceIte, Nat.reduceEqDiff, Nat.reduceLT, Env.up, Nat.zero_ne_one, Nat.one_ne_zero, Nat.reduceAdd, List.cons_append, List.nil_append]; rotate_left 1)
  | (apply w_sti; exact rfl; exact rfl; rotate_left 1; exact rfl; rotate_left 2)
  | (apply w_stst; iterate 5 exact rfl)
  | (apply w_stbv; iterate 6 exact rfl)
  | (apply w_stbo; exact rfl; exact rfl; exact rfl; exact rfl; exact rfl; exact True.intro)
  | ((apply AOps.splitB; exact rfl; exact rfl) <;> intro h)
  | apply AllOf.nil
  | (apply AllOf.cons; exact rfl)
  | (apply AAny.take; exact rfl; exact rfl; kernel_rfl; kernel_rfl)
  | (apply AAny.all; exact rfl)
  | (apply AAny.done; exact rfl)
  | (apply inI_of <;> omega)
  | omega
  | (simp <;> omega))
  · exact ⟨(x * x % 55441, k / 2, o * x % 55441), ⟨b4, by simp only; omega, b3, by simp only; rw [pw_odd (by omega) (by omega), h3]⟩, by simp only; omega, ⟨lee rfl (by (repeat (first | exact le_nil | refine le_eq rfl rfl ?_ | refine le_eq rfl (congrArg AV.i (by omega)) ?_))), by (repeat (first | exact lo_nil | refine lo_dead ?_ | refine lo_eq rfl ?_)), rfl, rfl⟩⟩
  · exact ⟨(x * x % 55441, k / 2, o), ⟨b4, by simp only; omega, h2, by simp only; rw [pw_even (by omega) (by omega), h3]⟩, by simp only; omega, ⟨lee rfl (by (repeat (first | exact le_nil | refine le_eq rfl rfl ?_ | refine le_eq rfl (congrArg AV.i (by omega)) ?_))), by (repeat (first | exact lo_nil | refine lo_dead ?_ | refine lo_eq rfl ?_)), rfl, rfl⟩⟩
  · have e : k = 0 := by omega
    subst e
    exact .int Try.results93 rfl (by rw [← h3]; simp; omega)
end Go.Proofs.Ytifkgmbghcmdeaa
/-
  Rows that go into own slices by append; literal slices of rows. No condition.
-/
namespace Go.Proofs.Ytifkgmbghcmdeaa
open Go Go.RowKit

/-- The slice 'k' is now the row j of 'p'; what names p's own value or block is lost. -/
def AV.rin1 (k p j : Nat) : AV → AV
  | .own i => if i = k then .orow p j else if i = p then .any else .own i
  | .optr i n => if i = p then .any else .optr i n
  | .osub i a b => if i = p then .any else .osub i a b
  | .agg _ => .any
  | .tup _ => .any
  | a => a
def AV.rin (k p j : Nat) : AV → AV
  | .own i => if i = k then .orow p j else if i = p then .any else .own i
  | .optr i n => if i = p then .any else .optr i n
  | .osub i a b => if i = p then .any else .osub i a b
  | .agg l => .agg (l.map (AV.rin1 k p j))
  | .tup l => .tup (l.map (AV.rin1 k p j))
  | a => a

section
variable {w w' : World} {ok ok' : Nat → Prop} {gs gs' : List Gh} {p k j : Nat} {gk g' : Gh}

structure RowIn (p k j : Nat) (gs gs' : List Gh) : Prop where
  other : ∀ (i : Nat) g, i ≠ p → gs[i]? = some g → gs'[i]? = some g
  rows : ∀ g, gs[p]? = some g → ∃ g', gs'[p]? = some g' ∧ ∀ (i : Nat) v, g.rows[i]? = some v → g'.rows[i]? = some v
  row : ∀ gk, gs[k]? = some gk → ∃ g', gs'[p]? = some g' ∧ g'.rows[j]? = some gk.v

theorem RV.rin1 (kp : Keeps ok ok' w w') (s : RowIn p k j gs gs') {v : Value} {a : AV} (hv : RV w ok gs v a) : RV w' ok' gs' v (a.rin1 k p j) := by
  cases hv with
  | any v => exact .any v
  | val v => exact .val v
  | ints h => exact .ints (h.mono kp)
  | intss h => exact .intss (h.mono kp)
  | @ro v r h => exact .ro (r.up kp h)
  | iptr h h1 h2 => exact .iptr (h.mono kp) h1 h2
  | iiptr h h1 h2 => exact .iiptr (h.mono kp) h1 h2
  | @own i g h1 =>
    simp only [AV.rin1]; split
    · subst_vars
      obtain ⟨g', a1, a2⟩ := s.row _ h1
      exact .orow a1 a2
    · split
      · exact .any _
      · exact .own (s.other _ _ ‹_› h1)
  | optr h1 =>
    simp only [AV.rin1]; split
    · exact .any _
    · exact .optr (s.other _ _ ‹_› h1)
  | osub h1 h2 h3 h4 =>
    simp only [AV.rin1]; split
    · exact .any _
    · exact .osub (s.other _ _ ‹_› h1) h2 h3 h4
  | @orow h i g v h1 h2 =>
    by_cases e : h = p
    · subst e
      obtain ⟨g', a1, a2⟩ := s.rows _ h1
      exact .orow a1 (a2 _ _ h2)
    · exact .orow (s.other _ _ e h1) h2
  | @orptr h i n blk m c g h1 h2 =>
    by_cases e : h = p
    · subst e
      obtain ⟨g', a1, a2⟩ := s.rows _ h1
      exact .orptr a1 (a2 _ _ h2)
    · exact .orptr (s.other _ _ e h1) h2
  | agg _ _ _ => exact .any _
  | tup _ _ => exact .any _

theorem RV.rin (kp : Keeps ok ok' w w') (s : RowIn p k j gs gs') {v : Value} {a : AV} (hv : RV w ok gs v a) : RV w' ok' gs' v (a.rin k p j) := by
  cases hv with
  | any v => exact .any v
  | val v => exact .val v
  | ints h => exact .ints (h.mono kp)
  | intss h => exact .intss (h.mono kp)
  | @ro v r h => exact .ro (r.up kp h)
  | iptr h h1 h2 => exact .iptr (h.mono kp) h1 h2
  | iiptr h h1 h2 => exact .iiptr (h.mono kp) h1 h2
  | @own i g h1 => exact RV.rin1 kp s (.own h1)
  | optr h1 => exact RV.rin1 kp s (.optr h1)
  | osub h1 h2 h3 h4 => exact RV.rin1 kp s (.osub h1 h2 h3 h4)
  | orow h1 h2 => exact RV.rin1 kp s (.orow h1 h2)
  | orptr h1 h2 => exact RV.rin1 kp s (.orptr h1 h2)
  | agg h1 h3 h2 => exact .agg (by simpa using h1) h3 fun i => by rw [getD_map_f _ rfl]; exact (h2 i).rin1 kp s
  | tup h1 h2 => exact .tup (by simpa using h1) fun i => by rw [getD_map_f _ rfl]; exact (h2 i).rin1 kp s
end

section
variable {P : Program} {env : Env} {os : List AO} {d : Option Tmp} {ty : TypeId} {pos : String} {af : Array Edge} {g : Option (Nat × Bool)}

/-- An empty slice of rows. -/
theorem l_bsr0 {t e e2 : TypeId} {bytes : Nat} [ht : TSlice P t e] [he : TElem P e (.slice none 0 0) bytes] [TSlice P e e2] : LOp P ⟨d, .buildSlice t 0 #[], ty, pos, af, g⟩ env os (.own os.length) env (os ++ [.sls e e2 []]) := by
  refine l_new fun base w gs tm hr => ?_
  obtain ⟨ii, hi, hs, hz, hby⟩ := he.info
  refine ⟨w.alloc (.cells #[] e), ⟨.slice (some ⟨w.heap.size, 0, none⟩) 0 0, w.heap.size, [w.heap.size], []⟩, ?_, below_alloc w _, fun b hb => by simp at hb; simp [hb], fun ok gs' => ?_⟩
  · simp [execOp, Instr.buildSlice, run_underlying ht.und, sizeOf, typeInfo, hi, Instr.fill, newRow, ar0]
  · refine ⟨[], [], [w.heap.size], ⟨by simp, .inr ⟨w.heap.size, 0, _, rfl, hr.hb, heap_alloc_new w _, Nat.le_refl _, by simp [maxLen], by simp, by simp⟩⟩, rfl, rfl, rfl, fun i u hu => (by cases hu), .inr ⟨rfl, rfl⟩, by simp, by simp⟩

/-- A literal slice of one row: a block whose cell names the row. -/
theorem l_bsr1 {t e : TypeId} {bytes : Nat} [ht : TSlice P t e] [he : TElem P e (.slice none 0 0) bytes] {x : Operand} {k : Nat} {e3 : TypeId} {ys : List Int} (hx : AV.ev env x = .own k) (hk : os[k]? = some (.sli e3 ys)) :
    LOp P ⟨d, .buildSlice t 1 #[(0, x)], ty, pos, af, g⟩ env os (.osub os.length 0 1) env (os ++ [.bx e [.own k]]) := by
  intro base w gs tm hr
  have hxv := hr.ev x
  rw [hx] at hxv
  generalize hv : Act.eval ⟨tm, []⟩ x = v at hxv
  cases hxv with
  | @own _ gk hgk =>
    obtain ⟨b1, b2, b3⟩ := hr.ho _ _ _ hgk hk
    obtain ⟨ua, uc, eu⟩ := ownsRow_slice b1
    obtain ⟨ii, hi, hs, hz, hby⟩ := he.info
    have hbel := below_alloc w (.cells [gk.v].toArray e)
    have hlt : w.heap.size < (w.alloc (.cells [gk.v].toArray e)).heap.size := by simp
    have hno : AO.bx e [.own k] ≠ .dead → ∀ b, b ∈ [w.heap.size] → w.heap.size ≤ b ∧ b < (w.alloc (.cells [gk.v].toArray e)).heap.size := fun _ b hb => by simp at hb; omega
    let gn : Gh := ⟨.pointer (some ⟨w.heap.size, 0, none⟩), w.heap.size, [w.heap.size], []⟩
    have hgs : ∀ (i : Nat) g', gs[i]? = some g' → (gs ++ [gn])[i]? = some g' := fun i g' e => by
      rw [List.getElem?_append_left (List.getElem?_eq_some_iff.1 e).1]; exact e
    refine ⟨.slice (some ⟨w.heap.size, 0, none⟩) 1 1, _, gs ++ [gn], .inl ?_, hr.new hbel _ _ hno ?_, ?_, hbel.mono hr.hb⟩
    · simp [execOp, Instr.buildSlice, run_underlying ht.und, sizeOf, typeInfo, zeroValue, hi, hs, hz, Instr.fill, newRow, hv, eu, Value.cells, ar1]
    · refine ⟨[gk.v], heap_alloc_new w _, hr.hb, rfl, rfl, rfl, ?_, fun i => ?_⟩
      · intro c hc; simp at hc; subst hc; rw [eu]; rfl
      · match i with
        | 0 => exact .own (hgs _ _ hgk)
        | i + 1 => exact .any _
    · have := RV.osub (w := w.alloc (.cells [gk.v].toArray e)) (ok := okOf (gs ++ [gn]) (os ++ [.bx e [.own k]])) (off := 0) (len := 1) (cap := 1) (p := some ⟨w.heap.size, 0, none⟩) (len_new (gs := gs) (g := gn)) (fun _ => rfl) (Nat.le_refl _) (by simp [maxLen])
      rw [hr.hl] at this
      exact this

theorem nodup_rows {m m' fl c : List Nat} (h : (m ++ fl).Nodup) (hm : m'.Nodup) (hmm : ∀ b, b ∈ m' → b ∉ fl ∧ b ∉ c) (hc : c.Nodup) (hd : ∀ b, b ∈ c → b ∉ m ++ fl) : (m' ++ (fl ++ c)).Nodup := by
  simp only [List.nodup_append, List.mem_append] at *
  obtain ⟨h1, h2, h3⟩ := h
  refine ⟨hm, ⟨h2, hc, ?_⟩, ?_⟩
  · intro a ha b hb e
    subst e
    exact hd a hb (.inr ha)
  · intro a ha b hb e
    subst e
    rcases hb with hb | hb
    · exact (hmm a ha).1 hb
    · exact (hmm a ha).2 hb

set_option maxHeartbeats 1000000 in
/-- One row is appended. -/
theorem l_append_row {t e e3 : TypeId} {bytes : Nat} [ht : TSlice P t e] [he : TElem P e (.slice none 0 0) bytes] {x y : Operand} {h m k : Nat} {e' e2 T : TypeId} {xss : List (List Int)} {ys : List Int}
    (hx : AV.ev env x = .own h) (hs : os[h]? = some (.sls e' e2 xss)) (hee : e' = e) (hy : AV.ev env y = .osub m 0 1) (hm : os[m]? = some (.bx T [.own k])) (hk : os[k]? = some (.sli e3 ys)) (he3 : e3 = e2)
    (hb : (xss.length + 1) * bytes ≤ 140737488355328) :
    LOp P ⟨d, .call { callee := .builtin .append, args := #[x, y], argTypes := #[t, t] }, ty, pos, af, g⟩ env os (.own h) (env.mp (AV.rin k h xss.length)) (((os.map (AO.via (AV.rin k h xss.length) h)).set h (.sls e e2 (xss ++ [ys]))).set k .dead) := by
  subst hee
  subst he3
  intro base w gs tm hr
  have hxv := hr.ev x
  rw [hx] at hxv
  have hyv := hr.ev y
  rw [hy] at hyv
  generalize hv : Act.eval ⟨tm, []⟩ x = v at hxv
  generalize hu : Act.eval ⟨tm, []⟩ y = u at hyv
  have hne : h ≠ k := fun e => by subst e; rw [hs] at hk; cases hk
  cases hxv with
  | @own _ gh hg =>
  cases hyv with
  | @osub _ _ _ cap pa gm hgm hp hc hcm =>
    have epa := hp (by omega)
    subst epa
    obtain ⟨cs, m1, m2, m3, m4, m5, m6, m7⟩ := hr.ho _ _ _ hgm hm
    have hcs := m7 0
    simp only [List.getD_cons_zero] at hcs
    obtain ⟨c0, rfl⟩ : ∃ c0, cs = [c0] := by
      match cs, m5 with
      | [c0], _ => exact ⟨c0, rfl⟩
    simp only [List.getD_cons_zero] at hcs
    cases hcs with
    | @own _ gk hgk =>
    obtain ⟨vs, bs, mb, a1, a2, a3, a4, a5, a6, a7, a8⟩ := hr.ho _ _ _ hg hs
    obtain ⟨b1, b2, b3⟩ := hr.ho _ _ _ hgk hk
    obtain ⟨ua, uc, eu⟩ := ownsRow_slice b1
    obtain ⟨ii, hi, hsz, hz, hby⟩ := he.info
    have h64 : vs.length + 1 ≤ maxLen := by
      have := he.pos
      have : xss.length + 1 ≤ (xss.length + 1) * bytes := Nat.le_mul_of_pos_right _ this
      simp only [maxLen]; omega
    obtain ⟨v', w', r1, r2, r3, r4, r5⟩ := run_append_own_at (P := P) w base t ty e' ii _ 1 bytes ht.und hi hz hsz hby rfl (by omega) gh.v vs.length vs a1 ⟨gm.b, 0, none⟩ 1 cap [gk.v] (by simp)
      (fun j u hj => by
        have hj0 : j = 0 := by have := (List.getElem?_eq_some_iff.1 hj).1; simp at this; exact this
        subst hj0
        rw [add_none, cell_of_row w _ _ _ _ (0, 0) m1]
        simpa using hj)
      (fun u hu => by simp at hu; subst hu; rw [eu]; rfl) h64 (by rw [a2]; exact hb) hr.hb
    have emb : gh.v.ownBlock.toList = mb := by
      rcases a6 with ⟨c1, c2⟩ | ⟨c1, c2⟩
      · rw [c1, c2]; rfl
      · rw [c1, c2]; rfl
    have hgb : ∀ b, b ∉ gh.bl → some b ≠ gh.v.ownBlock := fun b hb e => hb (by rw [a7, ← emb, ← e]; simp)
    have hnotmb : ∀ b, b ∉ mb → some b ≠ gh.v.ownBlock := fun b hb e => hb (by rw [← emb, ← e]; simp)
    have hdis : ∀ c, c ∈ gk.bl → c ∉ gh.bl := hr.hd k h gk gh _ _ (fun e => hne e.symm) hgk hg hk hs (by simp) (by simp)
    have hlt : ∀ b, v'.ownBlock = some b → b < w'.heap.size := by
      intro b hb
      rcases r2.2 with ⟨e1, _⟩ | ⟨gg, cc, cur, e1, _, hgg, _⟩
      · rw [e1] at hb; cases hb
      · rw [e1] at hb; cases hb; exact (Array.getElem?_eq_some_iff.1 hgg).1
    have hhg : h < gs.length := (List.getElem?_eq_some_iff.1 hg).1
    have hbl0 : ∀ b, b ∈ gh.bl → b < w.heap.size := fun b hb => (hr.hn _ _ _ hg hs (by simp) b hb).2
    have hblk : ∀ b, b ∈ gk.bl → b < w.heap.size := fun b hb => (hr.hn _ _ _ hgk hk (by simp) b hb).2
    let g' : Gh := ⟨v', v'.ownBlock.getD 0, v'.ownBlock.toList ++ (bs ++ [gk.bl]).flatten, vs ++ [gk.v]⟩
    have efl : (bs ++ [gk.bl]).flatten = bs.flatten ++ gk.bl := by simp
    have hv'b : ∀ b, b ∈ v'.ownBlock.toList → v'.ownBlock = some b := fun b hb => by
      cases hvb : v'.ownBlock with
      | none => rw [hvb] at hb; simp at hb
      | some c => rw [hvb] at hb; simp at hb; rw [hb]
    have sv : RowIn h k xss.length gs (gs.set h g') := by
      refine ⟨fun j z hj hz => ?_, fun z hz => ⟨g', by simp [hhg], fun i u hiu => ?_⟩, fun z hz => ⟨g', by simp [hhg], ?_⟩⟩
      · rw [List.getElem?_set, if_neg (fun e => hj e.symm)]; exact hz
      · rw [hg] at hz; cases hz
        rw [a4] at hiu
        show (vs ++ [gk.v])[i]? = some u
        rw [List.getElem?_append_left (List.getElem?_eq_some_iff.1 hiu).1]; exact hiu
      · rw [hgk] at hz; cases hz
        show (vs ++ [gk.v])[xss.length]? = some gk.v
        rw [← a2]; simp
    -- a row's block is none of the outer one's
    have rowblk : ∀ (j : Nat) u, vs[j]? = some u → ∀ c, u.ownBlock = some c → c ∈ bs.flatten := by
      intro j u hj c hc
      have hjb : j < bs.length := by
        have := (List.getElem?_eq_some_iff.1 hj).1
        omega
      exact List.mem_flatten.2 ⟨bs.getD j [], by rw [List.getD_eq_getElem?_getD, List.getElem?_eq_getElem hjb]; simp, by rw [← (a5 j u hj).2.2, hc]; simp⟩
    have a8' : (mb ++ bs.flatten).Nodup := by rw [← a7]; exact a8
    have mbfl : ∀ b, b ∈ mb → b ∉ bs.flatten := fun b hb hb2 => (List.nodup_append.1 a8').2.2 b hb b hb2 rfl
    have keep : ∀ c, c < w.heap.size → c ∉ mb → w'.heap[c]? = w.heap[c]? := fun c hc hcm => r3.block c hc (hnotmb c hcm)
    refine ⟨v', w', gs.set h g', .inl ?_, hr.absorb hg hs trivial hgk hk trivial hne g' _ (AV.rin k h xss.length) rfl (fun b hb hn => r3.block b hb (hgb b hn)) r3.size ?_ (fun kp hv => hv.rin kp sv) ?_, ?_, ?_⟩
    · have r1' := r1
      simp only [execOp, resolve, invoke, builtin, Sem.run_bind, Sem.run_pure, Result.andThen_ok, List.map_toArray, List.map_cons, List.map_nil, hv, hu, r1']
    · intro b hb
      rcases List.mem_append.1 hb with hb | hb
      · have hb' := hv'b b hb
        refine ⟨?_, hlt b hb'⟩
        rcases r5 with r5 | r5
        · left
          rw [hb'] at r5
          exact Classical.byContradiction fun hn => hgb b hn r5
        · right; right
          rw [hb'] at r5; cases r5; exact Nat.le_refl _
      · rw [efl] at hb
        rcases List.mem_append.1 hb with hb | hb
        · have : b ∈ gh.bl := by rw [a7]; exact List.mem_append.2 (.inr hb)
          exact ⟨.inl this, Nat.lt_of_lt_of_le (hbl0 b this) r3.size⟩
        · exact ⟨.inr (.inl hb), Nat.lt_of_lt_of_le (hblk b hb) r3.size⟩
    · intro kp
      refine ⟨vs ++ [gk.v], bs ++ [gk.bl], v'.ownBlock.toList, ?_, by simp [a2], by simp [a3], rfl, fun j u hj => ?_, ?_, rfl, ?_⟩
      · simpa using r2
      · rw [List.getElem?_append] at hj
        split at hj
        · rename_i hjl
          obtain ⟨q1, q2, q3⟩ := a5 j u hj
          have g1 : (xss ++ [ys]).getD j [] = xss.getD j [] := by
            simp only [List.getD_eq_getElem?_getD]; rw [List.getElem?_append_left (by omega)]
          have g2 : (bs ++ [gk.bl]).getD j [] = bs.getD j [] := by
            simp only [List.getD_eq_getElem?_getD]; rw [List.getElem?_append_left (by omega)]
          rw [g1, g2]
          refine ⟨ownsRow_of_block q1 fun c hc => ?_, q2, q3⟩
          have hcf := rowblk j u hj c hc
          exact keep c (hbl0 c (by rw [a7]; exact List.mem_append.2 (.inr hcf))) fun hm => mbfl c hm hcf
        · rename_i hjl
          have hj0 : j = vs.length := by
            have := (List.getElem?_eq_some_iff.1 hj).1
            simp at this; omega
          subst hj0
          simp at hj
          subst hj
          have g1 : (xss ++ [ys]).getD vs.length [] = ys := by rw [a2]; simp [List.getD_eq_getElem?_getD]
          have g2 : (bs ++ [gk.bl]).getD vs.length [] = gk.bl := by rw [a2, ← a3]; simp [List.getD_eq_getElem?_getD]
          rw [g1, g2]
          refine ⟨ownsRow_of_block b1 fun c hc => ?_, b2, b3.list⟩
          have hcm := b3.mem hc
          exact keep c (hblk c hcm) fun hm => hdis c hcm (by rw [a7]; exact List.mem_append.2 (.inl hm))
      · show (v'.ownBlock = none ∧ v'.ownBlock.toList = []) ∨ (v'.ownBlock = some (v'.ownBlock.getD 0) ∧ v'.ownBlock.toList = [v'.ownBlock.getD 0])
        cases v'.ownBlock with
        | none => exact .inl ⟨rfl, rfl⟩
        | some b => exact .inr ⟨rfl, rfl⟩
      · show (v'.ownBlock.toList ++ (bs ++ [gk.bl]).flatten).Nodup
        rw [efl]
        refine nodup_rows a8' ?_ ?_ b3.nodup (fun b hb => by rw [← a7]; exact hdis b hb)
        · cases v'.ownBlock <;> simp
        · intro b hb
          have hb' := hv'b b hb
          rcases r5 with r5 | r5
          · rw [hb'] at r5
            have hm : b ∈ mb := by rw [← emb, ← r5]; simp
            exact ⟨mbfl b hm, fun hc => hdis b hc (by rw [a7]; exact List.mem_append.2 (.inl hm))⟩
          · rw [hb'] at r5
            cases r5
            refine ⟨fun hc => ?_, fun hc => ?_⟩
            · have := hbl0 w.heap.size (by rw [a7]; exact List.mem_append.2 (.inr hc)); omega
            · have := hblk w.heap.size hc; omega
    · exact RV.own (g := g') (by simp [hhg])
    · refine ⟨r3.os, r3.tape, r3.output, r3.size, fun b hb => r3.block b (by have := hr.hb; omega) (hgb b fun hm => ?_)⟩
      have := (hr.hn _ _ _ hg hs (by simp) b hm).1
      omega
end

section
variable {P : Program} {env : Env} {os : List AO} {d : Tmp} {ty : TypeId} {pos : String} {af : Array Edge} {l rest : List Oper} {K : APost}
theorem w_bsr0 {t e e2 : TypeId} {bytes : Nat} [TSlice P t e] [TElem P e (.slice none 0 0) bytes] [TSlice P e e2] {m : Nat} (hm : os.length = m) (h' : AOps P .seq l rest K (env.up d (.own m)) (os ++ [.sls e e2 []])) :
    AOps P .seq l (⟨some d, .buildSlice t 0 #[], ty, pos, af, none⟩ :: rest) K env os := AOps.lo (hm ▸ l_bsr0) h'
theorem w_bsr1 {t e e3 : TypeId} {bytes : Nat} [TSlice P t e] [TElem P e (.slice none 0 0) bytes] {x : Operand} {k m : Nat} {ys : List Int} (hx : evo env x = some (.own k)) (hk : os[k]? = some (.sli e3 ys)) (hm : os.length = m)
    (h' : AOps P .seq l rest K (env.up d (.osub m 0 1)) (os ++ [.bx e [.own k]])) :
    AOps P .seq l (⟨some d, .buildSlice t 1 #[(0, x)], ty, pos, af, none⟩ :: rest) K env os := AOps.lo (hm ▸ l_bsr1 (ev_of hx) hk) h'
theorem w_appr {t e e3 : TypeId} {bytes : Nat} [TSlice P t e] [TElem P e (.slice none 0 0) bytes] {x y : Operand} {h m k : Nat} {e' e2 T : TypeId} {xss : List (List Int)} {ys : List Int}
    (hx : evo env x = some (.own h)) (hs : os[h]? = some (.sls e' e2 xss)) (hee : e' = e) (hy : evo env y = some (.osub m 0 1)) (hm : os[m]? = some (.bx T [.own k])) (hk : os[k]? = some (.sli e3 ys)) (he3 : e3 = e2)
    (hb : (xss.length + 1) * bytes ≤ 140737488355328) (h' : AOps P .seq l rest K (Env.up (env.mp (AV.rin k h xss.length)) d (.own h)) (((os.map (AO.via (AV.rin k h xss.length) h)).set h (.sls e e2 (xss ++ [ys]))).set k .dead)) :
    AOps P .seq l (⟨some d, .call { callee := .builtin .append, args := #[x, y], argTypes := #[t, t] }, ty, pos, af, none⟩ :: rest) K env os :=
  AOps.lo (l_append_row (ev_of hx) hs hee (ev_of hy) hm hk he3 hb) h'
end
end Go.Proofs.Ytifkgmbghcmdeaa
/-
  Own slices whose cells are rows of another own slice: literal ones, appends, cuts; the two made one. No condition.
-/
namespace Go.Proofs.Ytifkgmbghcmdeaa
open Go Go.RowKit

theorem map_orow_kill (h k : Nat) (idx : List Nat) : (idx.map (AV.orow k)).map (AV.kill h) = idx.map (AV.orow k) := by
  rw [List.map_map]; rfl
theorem orow_kill (h k : Nat) (idx : List Nat) (j : Nat) : ((idx.map (AV.orow k)).getD j .any).kill h = (idx.map (AV.orow k)).getD j .any := by
  rw [← getD_map_kill, map_orow_kill]

section
variable {P : Program} {env : Env} {os : List AO} {d : Option Tmp} {ty : TypeId} {pos : String} {af : Array Edge} {g : Option (Nat × Bool)}

/-- An empty slice of rows. -/
theorem l_bsx0 {t e : TypeId} {bytes : Nat} [ht : TSlice P t e] [he : TElem P e (.slice none 0 0) bytes] (k : Nat) : LOp P ⟨d, .buildSlice t 0 #[], ty, pos, af, g⟩ env os (.own os.length) env (os ++ [.slr e (([] : List Nat).map (AV.orow k))]) := by
  refine l_new fun base w gs tm hr => ?_
  obtain ⟨ii, hi, hs, hz, hby⟩ := he.info
  refine ⟨w.alloc (.cells #[] e), ⟨.slice (some ⟨w.heap.size, 0, none⟩) 0 0, w.heap.size, [w.heap.size], []⟩, ?_, below_alloc w _, fun b hb => by simp at hb; simp [hb], fun ok gs' => ?_⟩
  · simp [execOp, Instr.buildSlice, run_underlying ht.und, sizeOf, typeInfo, hi, Instr.fill, newRow, ar0]
  · exact ⟨[], ⟨by simp, .inr ⟨w.heap.size, 0, _, rfl, hr.hb, heap_alloc_new w _, Nat.le_refl _, by simp [maxLen], by simp, by simp⟩⟩, rfl, fun i => .any _, .inr ⟨rfl, rfl⟩⟩

/-- A literal slice of one row of 'k'. -/
theorem l_bsx1 {t e : TypeId} {bytes : Nat} [ht : TSlice P t e] [he : TElem P e (.slice none 0 0) bytes] {x : Operand} {k i : Nat} {e2 e3 : TypeId} {xss : List (List Int)} (hx : AV.ev env x = .orow k i) (hk : os[k]? = some (.sls e2 e3 xss)) :
    LOp P ⟨d, .buildSlice t 1 #[(0, x)], ty, pos, af, g⟩ env os (.osub os.length 0 1) env (os ++ [.bx e [.orow k i]]) := by
  intro base w gs tm hr
  have hxv := hr.ev x
  rw [hx] at hxv
  generalize hv : Act.eval ⟨tm, []⟩ x = v at hxv
  cases hxv with
  | @orow _ _ gk _ hgk hrow =>
    obtain ⟨us, bs, mb, b1, b2, b3, b4, b5, _⟩ := hr.ho _ _ _ hgk hk
    have hu := hrow
    rw [b4] at hu
    obtain ⟨ua, uc, eu⟩ := ownsRow_slice (b5 _ _ hu).1
    obtain ⟨ii, hi, hs, hz, hby⟩ := he.info
    have hbel := below_alloc w (.cells [v].toArray e)
    have hlt : w.heap.size < (w.alloc (.cells [v].toArray e)).heap.size := by simp
    have hno : AO.bx e [.orow k i] ≠ .dead → ∀ b, b ∈ [w.heap.size] → w.heap.size ≤ b ∧ b < (w.alloc (.cells [v].toArray e)).heap.size := fun _ b hb => by simp at hb; omega
    let gn : Gh := ⟨.pointer (some ⟨w.heap.size, 0, none⟩), w.heap.size, [w.heap.size], []⟩
    have hgs : ∀ (i : Nat) g', gs[i]? = some g' → (gs ++ [gn])[i]? = some g' := fun i g' e => by
      rw [List.getElem?_append_left (List.getElem?_eq_some_iff.1 e).1]; exact e
    refine ⟨.slice (some ⟨w.heap.size, 0, none⟩) 1 1, _, gs ++ [gn], .inl ?_, hr.new hbel _ _ hno ?_, ?_, hbel.mono hr.hb⟩
    · simp [execOp, Instr.buildSlice, run_underlying ht.und, sizeOf, typeInfo, zeroValue, hi, hs, hz, Instr.fill, newRow, hv, eu, Value.cells, ar1]
    · refine ⟨[v], heap_alloc_new w _, hr.hb, rfl, rfl, rfl, ?_, fun i => ?_⟩
      · intro c hc; simp at hc; subst hc; rw [eu]; rfl
      · match i with
        | 0 => exact .orow (hgs _ _ hgk) hrow
        | i + 1 => exact .any _
    · have := RV.osub (w := w.alloc (.cells [v].toArray e)) (ok := okOf (gs ++ [gn]) (os ++ [.bx e [.orow k i]])) (off := 0) (len := 1) (cap := 1) (p := some ⟨w.heap.size, 0, none⟩) (len_new (gs := gs) (g := gn)) (fun _ => rfl) (Nat.le_refl _) (by simp [maxLen])
      rw [hr.hl] at this
      exact this

set_option maxHeartbeats 1000000 in
/-- One row is appended. -/
theorem l_append_x {t e : TypeId} {bytes : Nat} [ht : TSlice P t e] [he : TElem P e (.slice none 0 0) bytes] {x y : Operand} {h m k i : Nat} {e' T : TypeId} {idx : List Nat}
    (hx : AV.ev env x = .own h) (hs : os[h]? = some (.slr e' (idx.map (AV.orow k)))) (hee : e' = e) (hy : AV.ev env y = .osub m 0 1) (hm : os[m]? = some (.bx T [.orow k i])) (hb : (idx.length + 1) * bytes ≤ 140737488355328) :
    LOp P ⟨d, .call { callee := .builtin .append, args := #[x, y], argTypes := #[t, t] }, ty, pos, af, g⟩ env os (.own h) (env.mp (AV.kill h)) ((os.map (AO.kill h)).set h (.slr e ((idx ++ [i]).map (AV.orow k)))) := by
  subst hee
  intro base w gs tm hr
  have hxv := hr.ev x
  rw [hx] at hxv
  have hyv := hr.ev y
  rw [hy] at hyv
  generalize hv : Act.eval ⟨tm, []⟩ x = v at hxv
  generalize hu : Act.eval ⟨tm, []⟩ y = u at hyv
  cases hxv with
  | @own _ gh hg =>
  cases hyv with
  | @osub _ _ _ cap pa gm hgm hp hc hcm =>
    have epa := hp (by omega)
    subst epa
    obtain ⟨cs, m1, m2, m3, m4, m5, m6, m7⟩ := hr.ho _ _ _ hgm hm
    have hcs := m7 0
    simp only [List.getD_cons_zero] at hcs
    obtain ⟨c0, rfl⟩ : ∃ c0, cs = [c0] := by
      match cs, m5 with
      | [c0], _ => exact ⟨c0, rfl⟩
    simp only [List.getD_cons_zero] at hcs
    obtain ⟨vs, a1, a2, a3, a4⟩ := hr.ho _ _ _ hg hs
    have a2' : vs.length = idx.length := by simpa using a2
    obtain ⟨ii, hi, hsz, hz, hby⟩ := he.info
    have h64 : vs.length + 1 ≤ maxLen := by
      have := he.pos
      have : idx.length + 1 ≤ (idx.length + 1) * bytes := Nat.le_mul_of_pos_right _ this
      simp only [maxLen]; omega
    obtain ⟨v', w', r1, r2, r3, r4, r5⟩ := run_append_own_at (P := P) w base t ty e' ii _ 1 bytes ht.und hi hz hsz hby rfl (by omega) gh.v vs.length vs a1 ⟨gm.b, 0, none⟩ 1 cap [c0] (by simp)
      (fun j u hj => by
        have hj0 : j = 0 := by have := (List.getElem?_eq_some_iff.1 hj).1; simp at this; exact this
        subst hj0
        rw [add_none, cell_of_row w _ _ _ _ (0, 0) m1]
        simpa using hj)
      (fun u hu => by simp at hu; subst hu; exact m6 _ (by simp)) h64 (by rw [a2']; exact hb) hr.hb
    have hgb : ∀ b, b ∉ gh.bl → some b ≠ gh.v.ownBlock := fun b hb e => hb (a4.mem e.symm)
    let g' : Gh := ⟨v', v'.ownBlock.getD 0, v'.ownBlock.toList, gh.rows⟩
    have hgb' : GB g' := by
      show (v'.ownBlock = none ∧ v'.ownBlock.toList = []) ∨ (v'.ownBlock = some (v'.ownBlock.getD 0) ∧ v'.ownBlock.toList = [v'.ownBlock.getD 0])
      cases v'.ownBlock with
      | none => exact .inl ⟨rfl, rfl⟩
      | some b => exact .inr ⟨rfl, rfl⟩
    have hlt : ∀ b, v'.ownBlock = some b → b < w'.heap.size := by
      intro b hb
      rcases r2.2 with ⟨e1, _⟩ | ⟨gg, cc, cur, e1, _, hgg, _⟩
      · rw [e1] at hb; cases hb
      · rw [e1] at hb; cases hb; exact (Array.getElem?_eq_some_iff.1 hgg).1
    refine ⟨v', w', gs.set h g', .inl ?_, hr.turn hg hs trivial g' (.slr e' ((idx ++ [i]).map (AV.orow k))) (fun b hb hn => r3.block b hb (hgb b hn)) r3.size ?_ (fun i v hv => hv) ?_, ?_, ?_⟩
    · have r1' := r1
      simp only [execOp, resolve, invoke, builtin, Sem.run_bind, Sem.run_pure, Result.andThen_ok, List.map_toArray, List.map_cons, List.map_nil, hv, hu, r1']
    · intro b hb
      have hb' : v'.ownBlock = some b := by
        have hb2 : b ∈ v'.ownBlock.toList := hb
        cases hvb : v'.ownBlock with
        | none => rw [hvb] at hb2; simp at hb2
        | some c => rw [hvb] at hb2; simp at hb2; rw [hb2]
      refine ⟨?_, hlt b hb'⟩
      rcases r5 with r5 | r5
      · left; rw [hb'] at r5; exact a4.mem r5.symm
      · right; rw [hb'] at r5; cases r5; exact Nat.le_refl _
    · intro kp tn
      refine ⟨vs ++ [c0], by simpa using r2, by simp [a2'], fun j => ?_, hgb'⟩
      rcases Nat.lt_trichotomy j vs.length with hj | hj | hj
      · have e1 : (vs ++ [c0]).getD j undef = vs.getD j undef := by simp only [List.getD_eq_getElem?_getD]; rw [List.getElem?_append_left hj]
        have e2 : ((idx ++ [i]).map (AV.orow k)).getD j .any = (idx.map (AV.orow k)).getD j .any := by
          rw [List.map_append]; simp only [List.getD_eq_getElem?_getD]; rw [List.getElem?_append_left (by simp; omega)]
        rw [e1, e2, ← orow_kill h]
        exact (a3 j).kill kp tn
      · subst hj
        have e1 : (vs ++ [c0]).getD vs.length undef = c0 := by simp [List.getD_eq_getElem?_getD]
        have e2 : ((idx ++ [i]).map (AV.orow k)).getD vs.length .any = .orow k i := by
          rw [List.map_append, a2']; simp [List.getD_eq_getElem?_getD]
        rw [e1, e2]
        exact hcs.kill (h := h) kp tn
      · have e2 : ((idx ++ [i]).map (AV.orow k)).getD j .any = .any := by
          rw [List.getD_eq_getElem?_getD, List.getElem?_eq_none (by simp; omega)]; rfl
        rw [e2]
        exact .any _
    · have hk : h < gs.length := (List.getElem?_eq_some_iff.1 hg).1
      exact RV.own (g := g') (by simp [hk])
    · refine ⟨r3.os, r3.tape, r3.output, r3.size, fun b hb => r3.block b (by have := hr.hb; omega) (hgb b fun hm => ?_)⟩
      have := (hr.hn _ _ _ hg hs (by simp) b hm).1
      omega

/-- The slice is cut behind. -/
theorem l_cut_x {t e : TypeId} [ht : TSlice P t e] [he : TCell P e] {x y : Operand} {h k : Nat} {e' : TypeId} {idx : List Nat} {n : Int} (hx : AV.ev env x = .own h) (hs : os[h]? = some (.slr e' (idx.map (AV.orow k)))) (hy : AV.ev env y = .i n) (h0 : 0 < n) (h1 : n ≤ idx.length) :
    LOp P ⟨d, .slice t x none (some y) none, ty, pos, af, g⟩ env os (.own h) (env.mp (AV.kill h)) ((os.map (AO.kill h)).set h (.slr e' ((idx.take n.toNat).map (AV.orow k)))) := by
  intro base w gs tm hr
  have hxv := hr.ev x
  rw [hx] at hxv
  generalize hv : Act.eval ⟨tm, []⟩ x = v at hxv
  cases hxv with
  | @own _ gh hg =>
    obtain ⟨vs, a1, a2, a3, a4⟩ := hr.ho _ _ _ hg hs
    have a2' : vs.length = idx.length := by simpa using a2
    rcases a1.2 with ⟨_, c2⟩ | ⟨gg, cap, cur, c1, c2, c3, c4, c5, c6, c7⟩
    · omega
    have e1 := elem_of (P := P) ht.und
    have hrun := run_slice_h (P := P) w t (some ⟨gg, 0, none⟩) vs.length cap (by rw [e1]; exact ht.und) .i64 n (by omega) (by omega)
    rw [e1, run_size] at hrun
    have hat := run_sliceAt_slice (P := P) w t (.slice (some ⟨gg, 0, none⟩) vs.length cap) none (some (.int .i64 n)) none (by rw [e1]; exact ht.und)
    have ev' : sliced (some ⟨gg, 0, none⟩) 0 n.toNat cap 1 = .slice (some ⟨gg, 0, none⟩) n.toNat cap := by
      rw [sliced, if_neg (by omega)]; simp [add_none]
    let g' : Gh := ⟨.slice (some ⟨gg, 0, none⟩) n.toNat cap, gh.b, gh.bl, gh.rows⟩
    have egg : gh.b = gg ∧ gh.bl = [gg] := by
      rcases a4 with ⟨q1, _⟩ | ⟨q1, q2⟩
      · rw [c1] at q1; cases q1
      · rw [c1] at q1; cases q1; exact ⟨rfl, q2⟩
    have hlt : gg < w.heap.size := (Array.getElem?_eq_some_iff.1 c3).1
    refine ⟨.slice (some ⟨gg, 0, none⟩) n.toNat cap, w, gs.set h g', .inl ?_, hr.turn hg hs trivial g' (.slr e' ((idx.take n.toNat).map (AV.orow k))) (fun b hb hn => rfl) (Nat.le_refl _) (fun b hb => ⟨.inl hb, ?_⟩) (fun i v hv => hv) ?_, ?_, Below.refl _ _⟩
    · simp only [execOp, hv, c1, hr.evv hy, Option.map_none, Option.map_some, Sem.run_bind, hat, hrun, Result.andThen_ok, Sem.run_pure, ev']
    · have hb2 : b ∈ gh.bl := hb
      rw [egg.2] at hb2
      simp at hb2
      omega
    · intro kp tn
      refine ⟨vs.take n.toNat, ⟨by simp, .inr ⟨gg, cap, cur, ?_, c2, c3, ?_, c5, c6, ?_⟩⟩, by simp; omega, fun j => ?_, .inr ⟨?_, ?_⟩⟩
      · show Value.slice (some ⟨gg, 0, none⟩) n.toNat cap = _
        have : (vs.take n.toNat).length = n.toNat := by simp; omega
        rw [this]
      · simp; omega
      · rw [← c7, List.take_take]
        congr 1
        simp; omega
      · by_cases hj : j < n.toNat
        · have q1 : (vs.take n.toNat).getD j undef = vs.getD j undef := by simp only [List.getD_eq_getElem?_getD]; rw [List.getElem?_take, if_pos hj]
          have q2 : ((idx.take n.toNat).map (AV.orow k)).getD j .any = (idx.map (AV.orow k)).getD j .any := by
            rw [List.map_take]; simp only [List.getD_eq_getElem?_getD]; rw [List.getElem?_take, if_pos hj]
          rw [q1, q2, ← orow_kill h]
          exact (a3 j).kill kp tn
        · have q2 : ((idx.take n.toNat).map (AV.orow k)).getD j .any = .any := by
            rw [List.getD_eq_getElem?_getD, List.getElem?_eq_none (by simp; omega)]; rfl
          rw [q2]
          exact .any _
      · show Value.ownBlock (Value.slice (some ⟨gg, 0, none⟩) n.toNat cap) = some gh.b
        rw [egg.1]; rfl
      · show gh.bl = [gh.b]
        rw [egg.2, egg.1]
    · have hk : h < gs.length := (List.getElem?_eq_some_iff.1 hg).1
      exact RV.own (g := g') (by simp [hk])
end

theorem nodup_sel {bs : List (List Nat)} {idx : List Nat} (h : bs.flatten.Nodup) (hi : idx.Nodup) (hlt : ∀ i ∈ idx, i < bs.length) : ((idx.map fun i => bs.getD i []).flatten).Nodup := by
  unfold List.Nodup at h ⊢
  rw [List.pairwise_flatten] at h ⊢
  obtain ⟨h1, h2⟩ := h
  refine ⟨?_, ?_⟩
  · intro l hl
    obtain ⟨i, hi', rfl⟩ := List.mem_map.1 hl
    have := hlt i hi'
    rw [List.getD_eq_getElem?_getD, List.getElem?_eq_getElem this]
    exact h1 _ (List.getElem_mem this)
  · rw [List.pairwise_map]
    refine List.Pairwise.imp_of_mem ?_ hi
    intro a b ha hb hab
    have la := hlt a ha
    have lb := hlt b hb
    rw [List.getD_eq_getElem?_getD, List.getElem?_eq_getElem la, List.getD_eq_getElem?_getD, List.getElem?_eq_getElem lb]
    rw [List.pairwise_iff_getElem] at h2
    rcases Nat.lt_or_gt_of_ne hab with hl | hl
    · exact h2 a b la lb hl
    · exact fun x hx y hy e => h2 b a lb la hl y hy x hx e.symm

set_option maxHeartbeats 1000000 in
/-- The slice 'p' of rows of 'k' takes these rows; the rest of 'k' is no more. -/
theorem Rel.merge {base : Nat} {w : World} {gs : List Gh} {env : Env} {os : List AO} {tm : Array Value} (h : Rel base w gs env os tm) {p k : Nat} {e e2 e3 : TypeId} {xss : List (List Int)} {idx : List Nat} (hs : os[p]? = some (.slr e (idx.map (AV.orow k)))) (hk : os[k]? = some (.sls e3 e2 xss)) (hnd : idx.Nodup) :
    ∃ gs', Rel base w gs' (env.mp (AV.noRow p)) (((os.map (AO.via (AV.noRow p) p)).set p (.sls e e2 (idx.map fun i => xss.getD i []))).set k .dead) tm := by
  have hne : p ≠ k := fun e => by subst e; rw [hs] at hk; cases hk
  have hpo : p < os.length := (List.getElem?_eq_some_iff.1 hs).1
  have hko : k < os.length := (List.getElem?_eq_some_iff.1 hk).1
  obtain ⟨gp, hgp⟩ : ∃ x, gs[p]? = some x := ⟨_, List.getElem?_eq_getElem (by rw [h.hl]; exact hpo)⟩
  obtain ⟨gk, hgk⟩ : ∃ x, gs[k]? = some x := ⟨_, List.getElem?_eq_getElem (by rw [h.hl]; exact hko)⟩
  obtain ⟨vs, a1, a2, a3, a4⟩ := h.ho _ _ _ hgp hs
  obtain ⟨us, bs, mb, b1, b2, b3, b4, b5, b6, b7, b8⟩ := h.ho _ _ _ hgk hk
  have a2' : vs.length = idx.length := by simpa using a2
  have row : ∀ (j : Nat) u, vs[j]? = some u → ∃ i, idx[j]? = some i ∧ us[i]? = some u := by
    intro j u hj
    have hjl := (List.getElem?_eq_some_iff.1 hj).1
    have hrv := a3 j
    obtain ⟨i, hi⟩ : ∃ i, idx[j]? = some i := ⟨_, List.getElem?_eq_getElem (by omega)⟩
    rw [List.getD_eq_getElem?_getD, hj, List.getD_eq_getElem?_getD, List.getElem?_map, hi] at hrv
    simp only [Option.getD_some, Option.map_some] at hrv
    cases hrv with
    | @orow _ _ g0 _ q1 q2 =>
      rw [hgk] at q1
      cases q1
      rw [b4] at q2
      exact ⟨i, hi, q2⟩
  have hidx : ∀ i ∈ idx, i < bs.length := by
    intro i hi
    obtain ⟨j, hj⟩ := List.getElem?_of_mem hi
    have hjl := (List.getElem?_eq_some_iff.1 hj).1
    obtain ⟨i', q1, q2⟩ := row j _ (List.getElem?_eq_getElem (by omega))
    rw [hj] at q1
    cases q1
    have := (List.getElem?_eq_some_iff.1 q2).1
    omega
  let cs : List (List Nat) := idx.map fun i => bs.getD i []
  let g' : Gh := ⟨gp.v, gp.b, gp.bl ++ cs.flatten, vs⟩
  have hcs : ∀ b, b ∈ cs.flatten → b ∈ bs.flatten := by
    intro b hb
    obtain ⟨l, hl, hbl⟩ := List.mem_flatten.1 hb
    obtain ⟨i, hi, rfl⟩ := List.mem_map.1 hl
    have hil := hidx i hi
    rw [List.getD_eq_getElem?_getD, List.getElem?_eq_getElem hil] at hbl
    exact List.mem_flatten.2 ⟨_, List.getElem_mem hil, hbl⟩
  have hsk : ∀ b, b ∈ cs.flatten → b ∈ gk.bl := fun b hb => by rw [b7]; exact List.mem_append.2 (.inr (hcs b hb))
  have hgl : p < gs.length := by rw [h.hl]; exact hpo
  have sv : SameV p gs (gs.set p g') := by
    refine ⟨fun j z hj hz => ?_, fun z hz => ⟨g', by simp [hgl], ?_, ?_⟩⟩
    · rw [List.getElem?_set, if_neg (fun e => hj e.symm)]; exact hz
    · rw [hgp] at hz; cases hz; rfl
    · rw [hgp] at hz; cases hz; rfl
  refine ⟨gs.set p g', h.absorb hgp hs trivial hgk hk trivial hne g' _ (AV.noRow p) rfl (fun _ _ _ => rfl) (Nat.le_refl _) ?_ (fun kp hv => hv.noRow kp sv) ?_⟩
  · intro b hb
    rcases List.mem_append.1 hb with hb | hb
    · exact ⟨.inl hb, (h.hn _ _ _ hgp hs (by simp) b hb).2⟩
    · exact ⟨.inr (.inl (hsk b hb)), (h.hn _ _ _ hgk hk (by simp) b (hsk b hb)).2⟩
  · intro kp
    refine ⟨vs, cs, gp.bl, a1, by simp [a2'], by simp [cs], rfl, fun j u hj => ?_, a4, rfl, ?_⟩
    · obtain ⟨i, q1, q2⟩ := row j u hj
      have g1 : (idx.map fun i => xss.getD i []).getD j [] = xss.getD i [] := by
        rw [List.getD_eq_getElem?_getD, List.getElem?_map, q1]; rfl
      have g2 : cs.getD j [] = bs.getD i [] := by
        show (idx.map fun i => bs.getD i []).getD j [] = _
        rw [List.getD_eq_getElem?_getD, List.getElem?_map, q1]; rfl
      rw [g1, g2]
      exact b5 i u q2
    · show (gp.bl ++ cs.flatten).Nodup
      rw [List.nodup_append]
      refine ⟨a4.nodup, nodup_sel ?_ hnd hidx, ?_⟩
      · rw [b7] at b8
        exact (List.nodup_append.1 b8).2.1
      · intro a ha b hb e
        subst e
        exact h.hd p k gp gk _ _ hne hgp hgk hs hk (by simp) (by simp) a ha (hsk a hb)

theorem AWp.merge {P : Program} {c : Code} {N : APost} {X : Nat → APost} {Rt : APost} {env : Env} {os : List AO} {p k : Nat} {e e2 e3 : TypeId} {xss : List (List Int)} {idx : List Nat} (hs : os[p]? = some (.slr e (idx.map (AV.orow k)))) (hk : os[k]? = some (.sls e3 e2 xss)) (hnd : idx.Nodup)
    (h : AWp P c N X Rt (env.mp (AV.noRow p)) (((os.map (AO.via (AV.noRow p) p)).set p (.sls e e2 (idx.map fun i => xss.getD i []))).set k .dead)) : AWp P c N X Rt env os := by
  intro base w0 w gs tm hr hb
  obtain ⟨gs', hr'⟩ := hr.merge hs hk hnd
  exact h base w0 w gs' tm hr' hb

section
variable {P : Program} {env : Env} {os : List AO} {d : Tmp} {ty : TypeId} {pos : String} {af : Array Edge} {l rest : List Oper} {K : APost}
theorem w_bsx0 {t e : TypeId} {bytes : Nat} [TSlice P t e] [TElem P e (.slice none 0 0) bytes] {m : Nat} (k : Nat) (hm : os.length = m) (h' : AOps P .seq l rest K (env.up d (.own m)) (os ++ [.slr e (([] : List Nat).map (AV.orow k))])) :
    AOps P .seq l (⟨some d, .buildSlice t 0 #[], ty, pos, af, none⟩ :: rest) K env os := AOps.lo (hm ▸ l_bsx0 k) h'
theorem w_bsx1 {t e : TypeId} {bytes : Nat} [TSlice P t e] [TElem P e (.slice none 0 0) bytes] {x : Operand} {k i m : Nat} {e2 e3 : TypeId} {xss : List (List Int)} (hx : evo env x = some (.orow k i)) (hk : os[k]? = some (.sls e2 e3 xss)) (hm : os.length = m)
    (h' : AOps P .seq l rest K (env.up d (.osub m 0 1)) (os ++ [.bx e [.orow k i]])) :
    AOps P .seq l (⟨some d, .buildSlice t 1 #[(0, x)], ty, pos, af, none⟩ :: rest) K env os := AOps.lo (hm ▸ l_bsx1 (ev_of hx) hk) h'
theorem w_appx {t e : TypeId} {bytes : Nat} [TSlice P t e] [TElem P e (.slice none 0 0) bytes] {x y : Operand} {h m k i : Nat} {e' T : TypeId} {idx : List Nat}
    (hx : evo env x = some (.own h)) (hs : os[h]? = some (.slr e' (idx.map (AV.orow k)))) (hee : e' = e) (hy : evo env y = some (.osub m 0 1)) (hm : os[m]? = some (.bx T [.orow k i])) (hb : (idx.length + 1) * bytes ≤ 140737488355328)
    (h' : AOps P .seq l rest K (Env.up (env.mp (AV.kill h)) d (.own h)) ((os.map (AO.kill h)).set h (.slr e ((idx ++ [i]).map (AV.orow k))))) :
    AOps P .seq l (⟨some d, .call { callee := .builtin .append, args := #[x, y], argTypes := #[t, t] }, ty, pos, af, none⟩ :: rest) K env os := AOps.lo (l_append_x (ev_of hx) hs hee (ev_of hy) hm hb) h'
theorem w_cutx {t e : TypeId} [TSlice P t e] [TCell P e] {x y : Operand} {h k : Nat} {e' : TypeId} {idx : List Nat} {n : Int} (hx : evo env x = some (.own h)) (hs : os[h]? = some (.slr e' (idx.map (AV.orow k)))) (hy : evo env y = some (.i n)) (h0 : 0 < n) (h1 : n ≤ idx.length)
    (h' : AOps P .seq l rest K (Env.up (env.mp (AV.kill h)) d (.own h)) ((os.map (AO.kill h)).set h (.slr e' ((idx.take n.toNat).map (AV.orow k))))) :
    AOps P .seq l (⟨some d, .slice t x none (some y) none, ty, pos, af, none⟩ :: rest) K env os := AOps.lo (l_cut_x (ev_of hx) hs (ev_of hy) h0 h1) h'
end
end Go.Proofs.Ytifkgmbghcmdeaa
/-
  Own slices put together out of rows of another one and of one more row; functions that are handed an own slice of rows and hand one back in its place. No condition.
-/
namespace Go.Proofs.Ytifkgmbghcmdeaa
open Go Go.RowKit

/-- A state may be seen as another one. -/
def Turns (env : Env) (os : List AO) (env' : Env) (os' : List AO) : Prop := ∀ base w gs tm, Rel base w gs env os tm → ∃ gs', Rel base w gs' env' os' tm
theorem Turns.refl {env : Env} {os : List AO} : Turns env os env os := fun _ _ gs _ h => ⟨gs, h⟩
theorem Turns.merge {env : Env} {os : List AO} {p k : Nat} {e e2 e3 : TypeId} {xss : List (List Int)} {idx : List Nat} (hs : os[p]? = some (.slr e (idx.map (AV.orow k)))) (hk : os[k]? = some (.sls e3 e2 xss)) (hnd : idx.Nodup) :
    Turns env os (env.mp (AV.noRow p)) (((os.map (AO.via (AV.noRow p) p)).set p (.sls e e2 (idx.map fun i => xss.getD i []))).set k .dead) := fun _ _ _ _ h => h.merge hs hk hnd
end Go.Proofs.Ytifkgmbghcmdeaa
/-
  Own slices of rows put together: parts of own slices of rows, appends of them; a cell of a row is written; functions that are handed an own slice of rows and hand one back in its place. No condition.
-/
namespace Go.Proofs.Ytifkgmbghcmdeaa
open Go Go.RowKit

section
variable {P : Program} {env : Env} {os : List AO} {d : Option Tmp} {ty : TypeId} {pos : String} {af : Array Edge} {g : Option (Nat × Bool)} {wl : Bool}

/-! ### Sources of appends -/
end

/-! ### Functions that hand back an own slice of rows in the place of the one that they were handed -/
/-- The function is handed the own slice of rows 'xss' (handle 0) and hands back one made of its memory and new memory. All else is as it was. -/
def AFnT (P : Program) (f : FuncId) (args : List AV) (T T2 : TypeId) (xss : List (List Int)) (Q : List (List Int) → Prop) : Prop :=
  HasBody P f ∧ ∀ base w g vs, base ≤ w.heap.size → Objs base w [g] [.sls T T2 xss] → vs.size = args.length → (∀ i : Nat, RV w (okOf [g] [.sls T T2 xss]) [g] (vs.getD i undef) (args.getD i .any)) →
    Calls P f vs w fun e w' => ∃ g' xss', e = .returned g'.v ∧ Q xss' ∧ RO base w' (fun _ => True) [g'] g' (.sls T T2 xss') ∧ (∀ b, b ∈ g'.bl → (b ∈ g.bl ∨ w.heap.size ≤ b) ∧ b < w'.heap.size) ∧ Below base w w' ∧ ∀ b, b < w.heap.size → b ∉ g.bl → w'.heap[b]? = w.heap[b]?

theorem AFnT.of {P : Program} {f : FuncId} {fn : Func} {c : Code} {args args' : List AV} {T T2 : TypeId} {xss : List (List Int)} {Q : List (List Int) → Prop} {n : Nat} (hf : P.funcs[f]? = some fn) (hb : fn.body = some c) (hnm : (fn.name == "runtime.NumGoroutine") = false) (hn : fn.ntmps - args.length = n) (ha : args' = args.map (AV.sh 1))
    (h : ∀ K, AWp P c (fun _ _ => False) (fun _ _ _ => False) (fun env os => ∃ env2 os2 k xss', Turns env os env2 os2 ∧ ResIs P fn env2 os2 (.own k) ∧ os2[k]? = some (.sls T T2 xss') ∧ Q xss' ∧ os2[0]? = some (.keep 1 K)) (Env.start args' n) [.keep 1 K, .sls T T2 xss]) :
    AFnT P f args T T2 xss Q := by
  refine ⟨⟨fn, c, hf, hnm, hb⟩, fun base w g vs hbase hO hsz hvs => calls_of_wp hf hb ?_⟩
  rw [show fn.ntmps - vs.size = n by rw [hsz]; exact hn]
  let bl : List Nat := (List.range w.heap.size).filter fun b => decide (base ≤ b) && !g.bl.contains b
  let gk : Gh := ⟨undef, 0, bl, []⟩
  let K : Kp := ⟨fun b => w.heap[b]?, [gk]⟩
  have hbl : ∀ b, b ∈ bl ↔ b < w.heap.size ∧ base ≤ b ∧ b ∉ g.bl := by
    intro b
    simp only [bl, List.mem_filter, List.mem_range, Bool.and_eq_true, decide_eq_true_eq, Bool.not_eq_true', List.contains_eq_mem, decide_eq_false_iff_not]
  have gg : ∀ {i : Nat} {x : Gh}, [gk, g][i]? = some x → (i = 0 ∧ x = gk) ∨ (i = 1 ∧ x = g) := by
    intro i x hx
    match i with
    | 0 => simp at hx; exact .inl ⟨rfl, hx.symm⟩
    | 1 => simp at hx; exact .inr ⟨rfl, hx.symm⟩
    | i + 2 => simp at hx
  have go : ∀ {i : Nat} {x : AO}, [AO.keep 1 K, AO.sls T T2 xss][i]? = some x → (i = 0 ∧ x = .keep 1 K) ∨ (i = 1 ∧ x = .sls T T2 xss) := by
    intro i x hx
    match i with
    | 0 => simp at hx; exact .inl ⟨rfl, hx.symm⟩
    | 1 => simp at hx; exact .inr ⟨rfl, hx.symm⟩
    | i + 2 => simp at hx
  have hkeep : Keeps (okOf [g] [.sls T T2 xss]) (okOf [gk, g] [.keep 1 K, .sls T T2 xss]) w w := by
    intro b hbk _
    refine ⟨fun i x y hx hy hny hm => ?_, rfl⟩
    rcases gg hx with ⟨rfl, rfl⟩ | ⟨rfl, rfl⟩
    · rcases go hy with ⟨_, rfl⟩ | ⟨h0, _⟩
      · exact hny.elim
      · omega
    · rcases go hy with ⟨h0, _⟩ | ⟨_, rfl⟩
      · omega
      · exact hbk 0 _ _ rfl rfl hny hm
  have hro0 := hO.ho 0 g _ rfl rfl
  have hn0 := hO.hn 0 g rfl
  have hrel : Rel base w [gk, g] (Env.start args' n) [.keep 1 K, .sls T T2 xss] (vs ++ Array.replicate n undef) := by
    refine ⟨hbase, rfl, by simp [Env.start, hsz, ha], fun i => start_rv args' n vs (fun i => ?_) i, ?_, ?_, ?_⟩
    · rw [ha, getD_map_any _ rfl]
      have := (hvs i).sh (gs0 := [gk]) hkeep
      exact this
    · intro i x y hx hy
      rcases gg hx with ⟨rfl, rfl⟩ | ⟨rfl, rfl⟩
      · rcases go hy with ⟨_, rfl⟩ | ⟨h0, _⟩
        · exact ⟨fun b _ => rfl, rfl, fun i x h => by
            match i with
            | 0 => exact h
            | i + 1 => simp [K] at h⟩
        · omega
      · rcases go hy with ⟨h0, _⟩ | ⟨_, rfl⟩
        · omega
        · exact AO.plain.ro trivial hro0
    · intro i j g1 g2 o1 o2 hij hg1 hg2 ho1 ho2 _ _ b hb1 hb2
      rcases gg hg1 with ⟨rfl, rfl⟩ | ⟨rfl, rfl⟩
      · rcases gg hg2 with ⟨rfl, rfl⟩ | ⟨rfl, rfl⟩
        · exact hij rfl
        · exact ((hbl b).1 hb1).2.2 hb2
      · rcases gg hg2 with ⟨rfl, rfl⟩ | ⟨rfl, rfl⟩
        · exact ((hbl b).1 hb2).2.2 hb1
        · exact hij rfl
    · intro i x y hx hy _ b hb
      rcases gg hx with ⟨rfl, rfl⟩ | ⟨rfl, rfl⟩
      · exact ⟨((hbl b).1 hb).2.1, ((hbl b).1 hb).1⟩
      · exact hn0 b hb
  refine wp_mono (h K base w w _ _ hrel (Below.refl _ _)) ?_
  intro e a w' hq
  cases e with
  | normal => obtain ⟨_, _, _, _, _, _, hx⟩ := hq; exact hx.elim
  | exit j => obtain ⟨_, _, _, _, _, _, hx⟩ := hq; exact hx.elim
  | ret =>
    obtain ⟨env, os1, gs1, hr1, hd, hbel, env2, os2, k, xss', ht, hres, hok, hQ, hkp⟩ := hq
    obtain ⟨gs2, hr⟩ := ht base w' gs1 _ hr1
    obtain ⟨v, hu, hv⟩ := hres _ _ _ _ hr
    cases hv with
    | @own _ g' hg' =>
      have hlt0 : 0 < gs2.length := by rw [hr.hl]; exact (List.getElem?_eq_some_iff.1 hkp).1
      obtain ⟨g0, hg0⟩ : ∃ g0, gs2[0]? = some g0 := ⟨_, List.getElem?_eq_getElem hlt0⟩
      obtain ⟨r1, r2, r3⟩ := hr.ho _ _ _ hg0 hkp
      have egk : g0 = gk := by
        have := r3 0 gk rfl
        rw [hg0] at this
        exact Option.some.inj this
      subst egk
      have hk0 : k ≠ 0 := fun e => by subst e; rw [hkp] at hok; cases hok
      refine ⟨hd, g'.v, hu, g', xss', rfl, hQ, AO.plain.ro trivial (hr.ho _ _ _ hg' hok), fun b hb => ?_, hbel, fun b hb hnot => ?_⟩
      · have hbn := hr.hn _ _ _ hg' hok (by simp) b hb
        refine ⟨?_, hbn.2⟩
        by_cases hbw : b < w.heap.size
        · left
          apply Classical.byContradiction
          intro hnb
          exact hr.hd k 0 g' _ _ _ hk0 hg' hg0 hok hkp (by simp) (by simp) b hb ((hbl b).2 ⟨hbw, hbn.1, hnb⟩)
        · right; omega
      · rcases Nat.lt_or_ge b base with h6 | h6
        · exact hbel.block b h6
        · exact r1 b ((hbl b).2 ⟨hb, h6, hnot⟩)
  | goto l => exact (hq : False).elim
  | panic ch => exact (hq : False).elim
  | outgrown => exact (hq : False).elim
theorem AFnT.start {P : Program} {f : FuncId} {fn : Func} {nt : Nat} {args : List AV} {T T2 : TypeId} {xss : List (List Int)} {Q : List (List Int) → Prop} (hf : P.funcs[f]? = some fn) (hnt : fn.ntmps = nt) {c : Code} (hb : fn.body = some c) (hnm : (fn.name == "runtime.NumGoroutine") = false)
    (h : ∀ K, AWp P c (fun _ _ => False) (fun _ _ _ => False) (fun env os => ∃ env2 os2 k xss', Turns env os env2 os2 ∧ ResIs P fn env2 os2 (.own k) ∧ os2[k]? = some (.sls T T2 xss') ∧ Q xss' ∧ os2[0]? = some (.keep 1 K)) (Env.start (args.map (AV.sh 1)) (nt - args.length)) [.keep 1 K, .sls T T2 xss]) :
    AFnT P f args T T2 xss Q := AFnT.of hf hb hnm (by rw [hnt]) rfl h

section
variable {w w' : World} {ok ok' : Nat → Prop} {gs : List Gh} {h : Nat} {g' : Gh}
end

section
variable {P : Program} {env : Env} {os : List AO} {d : Option Tmp} {ty : TypeId} {pos : String} {af : Array Edge} {g : Option (Nat × Bool)}
end

section
variable {P : Program} {env : Env} {os : List AO} {d : Tmp} {ty : TypeId} {pos : String} {af : Array Edge} {g : Option (Nat × Bool)} {l rest : List Oper} {K : APost} {q : Md}
end
end Go.Proofs.Ytifkgmbghcmdeaa
/-
  Maps from pairs of integers to integers: made, read, written, walked in whatever order. No condition.
-/
namespace Go.Proofs.Ytifkgmbghcmdeaa
open Go Go.RowKit
open Go.ChangeMaps (setBlock)

def mkey (i j : Int) : Value := .agg #[.int .i64 i, .int .i64 j]
/-- Pairs of integers as keys. -/
class TPair (P : Program) (kt : TypeId) (e : outParam TypeId) : Prop where
  hk : P.underlying kt = some (.array 2 e)
  he : P.underlying e = some (.int .i64)
  hi : ∃ ii, P.info? e = some ii
  hs : P.cellsOf e = 1
instance {P : Program} {kt e : TypeId} [h : TArr P kt e 2] [q : TKind P e .i64] : TPair P kt e := ⟨h.und, q.und, let ⟨i, h1, _⟩ := h.elm; ⟨i, h1⟩, by obtain ⟨i, h1, h2⟩ := h.elm; simp [Program.cellsOf, h1, h2]⟩
variable {P : Program}
theorem run_part2 {kt e : TypeId} [t : TPair P kt e] (i j : Int) (w : World) : (part e #[.int .i64 i, .int .i64 j] (0 * 1)).run P w = .ok (.int .i64 i) w ∧ (part e #[.int .i64 i, .int .i64 j] (1 * 1)).run P w = .ok (.int .i64 j) w := by
  have hp : P.plainKey e = true := by simp [Program.plainKey, t.he]
  exact ⟨run_part_plain w hp rfl, run_part_plain w hp rfl⟩
theorem run_eqk {kt e : TypeId} [t : TPair P kt e] (i j a b : Int) (w : World) : (Op.equal kt (mkey i j) (mkey a b)).run P w = .ok (decide (i = a ∧ j = b)) w := by
  have pt := run_part2 (P := P) (kt := kt) (e := e)
  obtain ⟨hk, he, ⟨ii, hi⟩, hs⟩ := t
  have q : ∀ x y : Int, (Op.equalIn 9999 e (.int .i64 x) (.int .i64 y)).run P w = .ok (decide (x = y)) w := fun x y => by
    rw [show (9999 : Nat) = 9998 + 1 from rfl]
    unfold Op.equalIn
    simp only [Sem.run_bind, run_underlying he, Result.andThen_ok, if_true, Sem.run_pure]
    rfl
  unfold Op.equal
  rw [show Op.maxDepth = 9999 + 1 from rfl, mkey, mkey, run_equalIn_array w 9999 _ _ hk hi, hs]
  simp only [show List.range 2 = [0, 1] from rfl, Op.eqItems, Sem.run_bind]
  rw [(pt i j w).1, Result.andThen_ok, (pt a b w).1, Result.andThen_ok, q, Result.andThen_ok]
  by_cases h : i = a
  · simp only [h, decide_true, Bool.not_true, Bool.false_eq_true, if_false, Sem.run_bind, true_and]
    rw [(pt a j w).2, Result.andThen_ok, (pt a b w).2, Result.andThen_ok, q, Result.andThen_ok]
    by_cases h2 : j = b <;> simp [h2]
  · simp [h]
theorem run_checkk {kt e : TypeId} [t : TPair P kt e] (c : Bool) (i j : Int) (w : World) : (Instr.checkKey c 10000 kt (mkey i j)).run P w = .ok () w := by
  have pt := run_part2 (P := P) (kt := kt) (e := e)
  obtain ⟨hk, he, ⟨ii, hi⟩, hs⟩ := t
  have q : ∀ x : Int, (Instr.checkKey c 9999 e (.int .i64 x)).run P w = .ok () w := fun x => by
    rw [show (9999 : Nat) = 9998 + 1 from rfl]
    unfold Instr.checkKey
    simp only [Sem.run_bind, run_underlying he, Result.andThen_ok, Sem.run_pure]
  rw [show (10000 : Nat) = 9999 + 1 from rfl]
  unfold Instr.checkKey
  simp only [mkey, Sem.run_bind, run_underlying hk, Result.andThen_ok, Std.Legacy.Range.forIn_eq_forIn_range', Std.Legacy.Range.size, Nat.sub_zero, Nat.add_one_sub_one, Nat.div_one]
  simp only [show List.range' 0 2 = [0, 1] from rfl, List.forIn_cons, List.forIn_nil, Sem.run_bind, run_sizeOf w hi, Result.andThen_ok, hs]
  rw [(pt i j w).1, Result.andThen_ok, q, Result.andThen_ok]
  simp only [Sem.run_bind, Sem.run_pure, Result.andThen_ok, run_sizeOf w hi, hs]
  rw [(pt i j w).2, Result.andThen_ok, q, Result.andThen_ok]
  simp only [Sem.run_pure, Result.andThen_ok]

/-! ### Maps from pairs to integers, as lists of triples in the order of their first writing -/
def entT (t : Int × Int × Int) : Value × Value := (mkey t.1 t.2.1, .int .i64 t.2.2)
def MapIs (es : Array MapEntry) (clock : Nat) (L : List (Int × Int × Int)) : Prop :=
  es.toList.map (fun e => (e.key, e.val)) = L.map entT ∧ (∀ e ∈ es.toList, e.born < clock) ∧ (es.toList.map (·.born)).Nodup
def isK (i j : Int) (t : Int × Int × Int) : Bool := decide (i = t.1 ∧ j = t.2.1)
def putM (L : List (Int × Int × Int)) (i j c : Int) : List (Int × Int × Int) := match L.findIdx? (isK i j) with | some k => L.set k (i, j, c) | none => L ++ [(i, j, c)]
def lookM (L : List (Int × Int × Int)) (i j : Int) : Int := match L.find? (isK i j) with | some t => t.2.2 | none => 0

theorem run_findk {kt e : TypeId} [t : TPair P kt e] (i j : Int) (w : World) : ∀ (es : List MapEntry) (L : List (Int × Int × Int)) (n : Nat), es.map (fun e => (e.key, e.val)) = L.map entT →
    (Instr.findAsking kt (mkey i j) es n).run P w = .ok (match L.findIdx? (isK i j) with | some k => some (n + k, .int .i64 (L.getD k (0, 0, 0)).2.2) | none => none) w
  | [], [], n, _ => by simp [Instr.findAsking]
  | [], _ :: _, n, h => by simp at h
  | _ :: _, [], n, h => by simp at h
  | x :: es, y :: L, n, h => by
    simp only [List.map_cons, List.cons.injEq, entT, Prod.mk.injEq] at h
    obtain ⟨⟨h1, h2⟩, h3⟩ := h
    have ih := run_findk (t := t) i j w es L (n + 1) h3
    simp only [Instr.findAsking, Sem.run_bind, h1, run_eqk (P := P) (kt := kt), Result.andThen_ok, List.findIdx?_cons]
    by_cases hq : i = y.1 ∧ j = y.2.1
    · simp [isK, hq, h2]
    · simp only [hq, decide_false, Bool.false_eq_true, if_false, ih, isK]
      cases L.findIdx? (isK i j) with
      | none => rfl
      | some k => simp [Nat.add_comm, Nat.add_left_comm]
theorem run_findKey {kt e : TypeId} [t : TPair P kt e] (i j : Int) (w : World) (es : List MapEntry) (L : List (Int × Int × Int)) (h : es.map (fun e => (e.key, e.val)) = L.map entT) :
    (Instr.findKey kt (mkey i j) es).run P w = .ok (match L.findIdx? (isK i j) with | some k => some (k, .int .i64 (L.getD k (0, 0, 0)).2.2) | none => none) w := by
  have hf := run_findk (P := P) (kt := kt) i j w es L 0 h
  simp only [Nat.zero_add] at hf
  unfold Instr.findKey
  simp only [Sem.run_bind, run_underlying t.hk, Result.andThen_ok]
  cases es with
  | nil =>
    cases L with
    | nil => simp [Instr.findNow]
    | cons => simp at h
  | cons x es =>
    have e1 : Instr.findNow (.array 2 e) (mkey i j) (x :: es) 0 = none := by simp [Instr.findNow, Instr.sameNow]
    simp only [e1]
    exact hf

theorem keys_get {es : Array MapEntry} {L : List (Int × Int × Int)} (h : es.toList.map (fun e => (e.key, e.val)) = L.map entT) (k : Nat) (hk : k < L.length) :
    ∃ x, es[k]? = some x ∧ x.key = mkey (L.getD k (0, 0, 0)).1 (L.getD k (0, 0, 0)).2.1 ∧ x.val = .int .i64 (L.getD k (0, 0, 0)).2.2 := by
  have h1 := congrArg (·[k]?) h
  simp only [List.getElem?_map, List.getElem?_eq_getElem hk, Option.map_some, Array.getElem?_toList] at h1
  cases hx : es[k]? with
  | none => rw [hx] at h1; simp at h1
  | some x =>
    rw [hx] at h1
    simp only [Option.map_some, Option.some.injEq, entT, Prod.mk.injEq] at h1
    exact ⟨x, rfl, by rw [h1.1]; simp [List.getD_eq_getElem?_getD, hk], by rw [h1.2]; simp [List.getD_eq_getElem?_getD, hk]⟩
theorem size_of {es : Array MapEntry} {L : List (Int × Int × Int)} (h : es.toList.map (fun e => (e.key, e.val)) = L.map entT) : es.size = L.length := by
  have := congrArg List.length h
  simpa using this

theorem run_setmap {w : World} {r : Nat} {es : Array MapEntry} {c : Nat} (hr : w.heap[r]? = some (.map es c)) (o' : Obj) : (setObj r o').run P w = .ok () (setBlock w r o') := by
  simp [setObj, Sem.run, hr, setBlock]
theorem same_key (i j : Int) : Instr.sameBits 10000 (mkey i j) (mkey i j) = true := by
  rw [show (10000 : Nat) = 9999 + 1 from rfl]
  unfold Instr.sameBits mkey
  simp [Instr.sameBits]

theorem run_mapset {T kt e ve : TypeId} [hT : TMap P T kt ve] [TPair P kt e] (w : World) (r : Nat) (es : Array MapEntry) (clock : Nat) (L : List (Int × Int × Int)) (hb : w.heap[r]? = some (.map es clock)) (hM : MapIs es clock L) (i j c : Int) :
    ∃ es' clock', (Instr.mapUpdate T (.map (some r)) (mkey i j) (.int .i64 c)).run P w = .ok () (setBlock w r (.map es' clock')) ∧ MapIs es' clock' (putM L i j c) := by
  have hf := run_findKey (P := P) (kt := kt) i j w es.toList L hM.1
  unfold Instr.mapUpdate
  simp only [Sem.run_bind, run_underlying hT.und, Result.andThen_ok, MapKept.run_getObj_map hb, run_checkk (P := P) (kt := kt), hf]
  cases hq : L.findIdx? (isK i j) with
  | none =>
    refine ⟨es.push ⟨mkey i j, .int .i64 c, clock⟩, clock + 1, ?_, ?_⟩
    · exact run_setmap hb _
    · obtain ⟨h1, h2, h3⟩ := hM
      refine ⟨?_, ?_, ?_⟩
      · unfold putM; rw [hq]
        simp [h1, entT]
      · intro x hx
        simp only [Array.toList_push, List.mem_append, List.mem_singleton] at hx
        rcases hx with hx | rfl
        · exact Nat.lt_succ_of_lt (h2 x hx)
        · exact Nat.lt_succ_self _
      · simp only [Array.toList_push, List.map_append, List.map_cons, List.map_nil]
        refine List.nodup_append.2 ⟨h3, by simp, ?_⟩
        intro a ha b hb
        simp only [List.mem_singleton] at hb
        subst hb
        obtain ⟨x, hx, rfl⟩ := List.mem_map.1 ha
        exact Nat.ne_of_lt (h2 x hx)
  | some k =>
    obtain ⟨hk, hik, _⟩ := List.findIdx?_eq_some_iff_getElem.1 hq
    obtain ⟨h1, h2, h3⟩ := hM
    obtain ⟨x, hx, hx1, hx2⟩ := keys_get h1 k hk
    have e1 : L.getD k (0, 0, 0) = L[k] := by simp [List.getD_eq_getElem?_getD, hk]
    simp only [isK, decide_eq_true_eq] at hik
    have e2 : x.key = mkey i j := by rw [hx1, e1, ← hik.1, ← hik.2]
    refine ⟨es.modify k fun e => { e with key := mkey i j, val := .int .i64 c }, clock, ?_, ?_⟩
    · simp only [hx, Option.map_some, Option.getD_some, e2, Instr.keyThatStays, same_key, if_true]
      exact run_setmap hb _
    · have hborn : (es.modify k fun e => { e with key := mkey i j, val := .int .i64 c }).toList.map (·.born) = es.toList.map (·.born) := by
        apply List.ext_getElem?
        intro m
        simp only [List.getElem?_map, Array.getElem?_toList, Array.getElem?_modify]
        split
        · cases es[m]? <;> rfl
        · rfl
      refine ⟨?_, ?_, ?_⟩
      · apply List.ext_getElem?
        intro m
        have hm := congrArg (·[m]?) h1
        simp only [List.getElem?_map, Array.getElem?_toList] at hm
        unfold putM; rw [hq]
        simp only [List.getElem?_map, Array.getElem?_toList, Array.getElem?_modify, List.getElem?_set]
        by_cases e : k = m
        · subst e
          simp [hx, hk, entT]
        · simp only [e, if_false]
          exact hm
      · intro y hy
        have : y.born ∈ es.toList.map (·.born) := by rw [← hborn]; exact List.mem_map_of_mem hy
        obtain ⟨z, hz, e⟩ := List.mem_map.1 this
        rw [← e]; exact h2 z hz
      · rw [hborn]; exact h3

theorem run_maplook {T kt e ve : TypeId} {b : Nat} [hT : TMap P T kt ve] [TPair P kt e] [hz : TElem P ve (.int .i64 0) b] (w : World) (r : Nat) (es : Array MapEntry) (clock : Nat) (L : List (Int × Int × Int)) (hb : w.heap[r]? = some (.map es clock)) (hM : MapIs es clock L) (i j : Int) :
    (Instr.lookup T (.map (some r)) (mkey i j) false).run P w = .ok (.int .i64 (lookM L i j)) w := by
  have hf := run_findKey (P := P) (kt := kt) i j w es.toList L hM.1
  obtain ⟨ii, hi, _, hzz, _⟩ := hz.info
  unfold Instr.lookup
  simp only [Sem.run_bind, run_underlying hT.und, Result.andThen_ok, MapKept.run_getObj_map hb, Sem.run_pure, run_checkk (P := P) (kt := kt), hf]
  unfold lookM
  cases hq : L.findIdx? (isK i j) with
  | none =>
    have e1 : L.find? (isK i j) = none := by
      rw [List.find?_eq_none]; intro t ht
      rw [List.findIdx?_eq_none_iff] at hq
      simp [hq t ht]
    simp [e1, zeroValue, typeInfo, hi, hzz]
  | some k =>
    have e1 : L.find? (isK i j) = some (L.getD k (0, 0, 0)) := by
      obtain ⟨hk, hik, hlt⟩ := List.findIdx?_eq_some_iff_getElem.1 hq
      rw [List.find?_eq_some_iff_getElem]
      refine ⟨by simpa [List.getD_eq_getElem?_getD, hk] using hik, k, hk, by simp [List.getD_eq_getElem?_getD, hk], fun j hj => ?_⟩
      have := hlt j hj
      simpa using this
    simp [e1]

/-! ### As objects, and as what is only read -/
def mapOb (L : List (Int × Int × Int)) : Ob := ob1 (fun b => .map (some b)) (fun o => ∃ es clock, o = .map es clock ∧ MapIs es clock L) fun _ => ⟨rfl, rfl⟩
def mapRo (L : List (Int × Int × Int)) : Ro where
  p w ok v := ∃ b es clock, v = .map (some b) ∧ ok b ∧ w.heap[b]? = some (.map es clock) ∧ MapIs es clock L
  up k h := by
    obtain ⟨b, es, clock, h1, h2, h3, h4⟩ := h
    have := k b h2 (Array.getElem?_eq_some_iff.1 h3).1
    exact ⟨b, es, clock, h1, this.1, this.2.trans h3, h4⟩
def mapAt (b : Nat) (es : Array MapEntry) (clock : Nat) : Ro where
  p w ok v := v = .map (some b) ∧ ok b ∧ w.heap[b]? = some (.map es clock)
  up k h := by
    obtain ⟨h1, h2, h3⟩ := h
    have := k b h2 (Array.getElem?_eq_some_iff.1 h3).1
    exact ⟨h1, this.1, this.2.trans h3⟩
def bornAt (es : Array MapEntry) (i : Nat) : Nat := ((es[i]?).map (·.born)).getD 0
/-- An iterator over the map at b, which has handed out the entries 'done'. -/
def itOb (b : Nat) (es : Array MapEntry) (clock : Nat) (done : List Nat) : Ob :=
  ob1 (fun r => .pointer (some ⟨r, 0, none⟩)) (fun o => ∃ since c0 seen, o = .mapIter (some b) since seen c0 ∧ since ≤ c0 ∧ (∀ x ∈ es.toList, x.born < since) ∧ seen.toList = done.map (bornAt es) ∧ (done = [] ∨ c0 = clock) ∧ since ≤ clock) fun _ => ⟨rfl, rfl⟩

/-- A slot may be seen otherwise. -/
theorem Rel.see {base : Nat} {w : World} {gs : List Gh} {env : Env} {os : List AO} {tm : Array Value} (h : Rel base w gs env os tm) {k : Nat} {a : AV} (ha : RV w (okOf gs os) gs (tm.getD k undef) a) : Rel base w gs (env.up k a) os tm where
  hb := h.hb
  hl := h.hl
  hs := by simpa [Env.up] using h.hs
  he i := by
    rw [Env.lk_up]
    split
    · rename_i hi; rw [hi.1]; exact ha
    · exact h.he i
  ho := h.ho
  hd := h.hd
  hn := h.hn

section
variable {P : Program} {wl : Bool} {env : Env} {os : List AO} {d : Option Tmp} {ty : TypeId} {pos : String} {af : Array Edge} {g : Option (Nat × Bool)}

theorem AWp.open {c : Code} {N : Env → List AO → Prop} {X : Nat → Env → List AO → Prop} {Rt : Env → List AO → Prop} (k : Nat) {L : List (Int × Int × Int)} (hk : env.fd k = some (.ro (mapRo L)))
    (h : ∀ b es clock, MapIs es clock L → AWp P c N X Rt (env.up k (.ro (mapAt b es clock))) os) : AWp P c N X Rt env os := by
  intro base w0 w gs tm hr
  have hv := hr.he k
  rw [Env.lk_of hk] at hv
  generalize hu : tm.getD k undef = u at hv
  cases hv with
  | ro h1 =>
    obtain ⟨b, es, clock, e1, e2, e3, hM⟩ := h1
    exact h b es clock hM base w0 w gs tm (hr.see (by rw [hu]; exact .ro ⟨e1, e2, e3⟩))

theorem Ret1.ob {h : Nat} {q : Ob} (hs : os[h]? = some (.ob q)) : Ret1 os (.own h) (.own 0) [.ob q] := fun base w gs env tm hr u hu => by
  cases hu with
  | @own _ g hg => exact ⟨[g], .one (hr.ho _ _ _ hg hs) fun b hb => hr.hn _ _ _ hg hs (by simp) b hb, .own rfl⟩

/-- A new object of one block. -/
theorem l_newob {o : Oper} {val : Nat → Value} {p : Obj → Prop} {one : ∀ b, (val b).oneCell' = true ∧ (val b).cells = #[val b]} {ob : Obj} (hq : p ob) (hrun : ∀ base w gs tm, Rel base w gs env os tm → (execOp (Act.eval ⟨tm, []⟩) o).run P w = .ok (.value (val w.heap.size)) (w.alloc ob)) :
    LOp P o env os (.own os.length) env (os ++ [.ob (ob1 val p one)]) := by
  intro base w gs tm hr
  have hbel := below_alloc w ob
  have hno : AO.ob (ob1 val p one) ≠ .dead → ∀ b, b ∈ [w.heap.size] → w.heap.size ≤ b ∧ b < (w.alloc ob).heap.size := fun _ b hb => by simp at hb; simp [hb]
  refine ⟨_, _, gs ++ [⟨val w.heap.size, w.heap.size, [w.heap.size], []⟩], .inl (hrun base w gs tm hr), hr.new hbel _ _ hno ?_, ?_, hbel.mono hr.hb⟩
  · exact ⟨ob, heap_alloc_new w _, hq, hr.hb, rfl, rfl⟩
  · have := RV.own (w := w.alloc ob) (ok := okOf (gs ++ [⟨val w.heap.size, w.heap.size, [w.heap.size], []⟩]) (os ++ [.ob (ob1 val p one)])) (len_new (gs := gs) (g := ⟨val w.heap.size, w.heap.size, [w.heap.size], []⟩))
    rw [hr.hl] at this
    exact this

theorem l_makemap {T : TypeId} : LOp P ⟨d, .makeMap T none, ty, pos, af, g⟩ env os (.own os.length) env (os ++ [.ob (mapOb [])]) :=
  l_newob (ob := .map #[] 0) ⟨#[], 0, rfl, by simp [MapIs]⟩ fun base w gs tm hr => by
    simp [execOp, Instr.makeMap]

theorem map_at {base : Nat} {w : World} {gs : List Gh} {tm : Array Value} (hr : Rel base w gs env os tm) {x : Operand} {b : Nat} {es : Array MapEntry} {clock : Nat} (hx : AV.ev env x = .ro (mapAt b es clock)) :
    Act.eval ⟨tm, []⟩ x = .map (some b) ∧ okOf gs os b ∧ w.heap[b]? = some (.map es clock) := by
  have h := hr.ev x
  rw [hx] at h
  generalize Act.eval ⟨tm, []⟩ x = v at h
  cases h with
  | ro h1 => exact h1

theorem setBlock_other (w : World) (r c : Nat) (o : Obj) (h : c ≠ r) : (setBlock w r o).heap[c]? = w.heap[c]? := by
  simp only [setBlock]
  rw [Array.getElem?_setIfInBounds, if_neg (fun e => h e.symm)]
theorem setBlock_same (w : World) (r : Nat) (o : Obj) (h : r < w.heap.size) : (setBlock w r o).heap[r]? = some o := by
  simp only [setBlock]
  rw [Array.getElem?_setIfInBounds, if_pos rfl, if_pos h]
theorem setBlock_below {w w1 : World} {base r : Nat} {o : Obj} (h1 : w1 = w ∨ w1 = w.drew) (hr : base ≤ r) : Below base w (setBlock w1 r o) := by
  have : Below base w w1 := by rcases h1 with rfl | rfl; exact Below.refl _ _; exact (Below.refl _ _).drew
  exact ⟨this.os, this.tape, this.output, by simpa [setBlock] using this.size, fun k hk => by rw [setBlock_other _ _ _ _ (by omega)]; exact this.block k hk⟩

theorem l_mapset {T kt e ve : TypeId} [TMap P T kt ve] [TPair P kt e] {m k v : Operand} {h : Nat} {L : List (Int × Int × Int)} {i j c : Int} (hm : AV.ev env m = .own h) (hs : os[h]? = some (.ob (mapOb L))) (hk : AV.ev env k = .agg [.i i, .i j]) (hv : AV.ev env v = .i c) :
    LOp P ⟨d, .mapUpdate T m k v, ty, pos, af, g⟩ env os .any env (os.set h (.ob (mapOb (putM L i j c)))) := by
  intro base w gs tm hr
  have hh := hr.ev m
  rw [hm] at hh
  have hkk := hr.ev k
  rw [hk] at hkk
  have ek : Act.eval ⟨tm, []⟩ k = mkey i j := by
    generalize Act.eval ⟨tm, []⟩ k = u at hkk
    cases hkk with
    | @agg vs _ a1 _ a3 =>
      match vs, a1 with
      | [x, y], _ =>
        have h0 := a3 0
        have h1 := a3 1
        simp only [List.getD_cons_zero, List.getD_cons_succ] at h0 h1
        cases h0; cases h1; rfl
  generalize hu : Act.eval ⟨tm, []⟩ m = u at hh
  cases hh with
  | @own _ gh hg =>
    obtain ⟨o, a1, ⟨es, clock, rfl, hM⟩, a3, a4, a5⟩ := hr.ho _ _ _ hg hs
    obtain ⟨es', clock', hrun, hM'⟩ := run_mapset (P := P) (T := T) w gh.b es clock L a1 hM i j c
    have hlt : gh.b < w.heap.size := (Array.getElem?_eq_some_iff.1 a1).1
    refine ⟨undef, setBlock w gh.b (.map es' clock'), gs, .inr ⟨?_, rfl⟩, hr.upd hg hs trivial _ trivial (fun b _ hb => setBlock_other _ _ _ _ (fun e => hb (by rw [a4, e]; simp))) (by simp [setBlock]) fun _ => ?_, .any _, setBlock_below (.inl rfl) a3⟩
    · have e5 : gh.v = .map (some gh.b) := a5
      simp only [execOp, hu, e5, ek, hr.evv hv, Sem.run_bind, hrun, Result.andThen_ok, Sem.run_pure]
    · exact ⟨_, setBlock_same _ _ _ hlt, ⟨es', clock', rfl, hM'⟩, a3, a4, a5⟩

theorem q_maplook {T kt e ve : TypeId} {bb : Nat} [TMap P T kt ve] [TPair P kt e] [TElem P ve (.int .i64 0) bb] {m k : Operand} {h : Nat} {L : List (Int × Int × Int)} {i j : Int} (hm : AV.ev env m = .own h) (hs : os[h]? = some (.ob (mapOb L))) (hk : AV.ev env k = .agg [.i i, .i j]) :
    QOp P false ⟨d, .lookup T m k false, ty, pos, af, g⟩ env os (.i (lookM L i j)) :=
  .of_runb fun base w gs tm hr => by
    have hh := hr.ev m
    rw [hm] at hh
    have hkk := hr.ev k
    rw [hk] at hkk
    have ek : Act.eval ⟨tm, []⟩ k = mkey i j := by
      generalize Act.eval ⟨tm, []⟩ k = u at hkk
      cases hkk with
      | @agg vs _ a1 _ a3 =>
        match vs, a1 with
        | [x, y], _ =>
          have h0 := a3 0
          have h1 := a3 1
          simp only [List.getD_cons_zero, List.getD_cons_succ] at h0 h1
          cases h0; cases h1; rfl
    generalize hu : Act.eval ⟨tm, []⟩ m = u at hh
    cases hh with
    | @own _ gh hg =>
      obtain ⟨o, a1, ⟨es, clock, rfl, hM⟩, a3, a4, a5⟩ := hr.ho _ _ _ hg hs
      refine ⟨_, .val _, fun w' hw' => ?_⟩
      have hblk := (hw'.block _ (Array.getElem?_eq_some_iff.1 a1).1).trans a1
      have e5 : gh.v = .map (some gh.b) := a5
      simp only [execOp, hu, e5, ek, Sem.run_bind, run_maplook (P := P) (T := T) w' gh.b es clock L hblk hM i j, Result.andThen_ok, Sem.run_pure]

theorem born_inj {es : Array MapEntry} {clock : Nat} {L : List (Int × Int × Int)} (hM : MapIs es clock L) {i j : Nat} (hi : i < L.length) (hj : j < L.length) (h : bornAt es i = bornAt es j) : i = j := by
  obtain ⟨x, hx, _⟩ := keys_get hM.1 i hi
  obtain ⟨y, hy, _⟩ := keys_get hM.1 j hj
  simp only [bornAt, hx, hy, Option.map_some, Option.getD_some] at h
  have hn := hM.2.2
  have hs := size_of hM.1
  have gi : (es.toList.map (·.born))[i]? = some x.born := by simp [hx]
  have gj : (es.toList.map (·.born))[j]? = some y.born := by simp [hy]
  exact (List.getElem?_inj (by simp; omega) hn).1 (gi.trans (by rw [h]; exact gj.symm))

/-- One round of a loop over a map begins, or the loop ends. -/
theorem AOps.next {l rest : List Oper} {K : APost} {d : Tmp} {it : Operand} {h : Nat} {b : Nat} {es : Array MapEntry} {clock : Nat} {done : List Nat} {L : List (Int × Int × Int)} (m : Operand) (hM : MapIs es clock L) (hdone : ∀ i ∈ done, i < L.length)
    (hx : evo env it = some (.own h)) (hs : os[h]? = some (.ob (itOb b es clock done))) (hm : evo env m = some (.ro (mapAt b es clock)))
    (h0 : (∀ i, i < L.length → i ∈ done) → AOps P .seq l rest K (env.up d (.val (.tuple #[.bool false]))) os)
    (h1 : ∀ i, i < L.length → i ∉ done → AOps P .seq l rest K (env.up d (.val (.tuple #[.bool true, mkey (L.getD i (0, 0, 0)).1 (L.getD i (0, 0, 0)).2.1, .int .i64 (L.getD i (0, 0, 0)).2.2]))) (os.set h (.ob (itOb b es clock (done ++ [i]))))) :
    AOps P .seq l (⟨some d, .next it false, ty, pos, af, none⟩ :: rest) K env os := by
  intro base w0 w gs tm hr hb X Rt
  obtain ⟨_, hok, hmap⟩ := map_at hr (ev_of hm)
  have hh := hr.ev it
  rw [ev_of hx] at hh
  generalize hu : Act.eval ⟨tm, []⟩ it = u at hh
  cases hh with
  | @own _ gh hg =>
    obtain ⟨o, a1, ⟨since, c0, seen, rfl, q1, q2, q3, q4, q5⟩, a3, a4, a5⟩ := hr.ho _ _ _ hg hs
    have e5 : gh.v = .pointer (some ⟨gh.b, 0, none⟩) := a5
    have hlt : gh.b < w.heap.size := (Array.getElem?_eq_some_iff.1 a1).1
    have mem_seen : ∀ i, i < L.length → (bornAt es i ∈ seen.toList ↔ i ∈ done) := by
      intro i hi
      rw [q3, List.mem_map]
      constructor
      · rintro ⟨j, hj, e⟩
        have := born_inj hM (hdone j hj) hi e
        rwa [← this]
      · intro hi2; exact ⟨i, hi2, rfl⟩
    refine wpList_plain rfl fun K hK => ?_
    unfold Oper.wp
    rcases run_next_at (P := P) w ty gh.b b since c0 seen es clock a1 hmap q2 q1 with ⟨hz, hrun⟩ | ⟨e, he, w1, hw1, hrun⟩
    · have hrun' : (execOp (Act.eval ⟨tm, []⟩) ⟨some d, .next it false, ty, pos, af, none⟩).run P w = .ok (.value (.tuple #[.bool false])) w := by
        simp only [execOp, hu, e5, Sem.run_bind, hrun, Result.andThen_ok, Sem.run_pure]
      rw [hrun']
      refine hK _ _ (h0 (fun i hi => ?_) base w0 w gs _ (hr.put (.val _) d) hb X Rt)
      obtain ⟨x, hxe, _⟩ := keys_get hM.1 i hi
      have hnil : leftOf es seen = #[] := Array.eq_empty_of_size_eq_zero hz
      unfold leftOf at hnil
      rw [Array.filter_eq_empty_iff] at hnil
      have := hnil x (Array.mem_of_getElem? hxe)
      simp only [Bool.not_eq_true, Bool.not_eq_false', Array.contains_eq_mem, decide_eq_true_eq] at this
      refine (mem_seen i hi).1 ?_
      simpa [bornAt, hxe] using this
    · unfold leftOf at he
      simp only [Array.mem_toList_iff, Array.mem_filter, Bool.not_eq_true', Array.contains_eq_mem, decide_eq_false_iff_not] at he
      obtain ⟨hmem, hns⟩ := he
      obtain ⟨i, hi⟩ := Array.getElem?_of_mem hmem
      have hiL : i < L.length := by
        have := (Array.getElem?_eq_some_iff.1 hi).1
        have := size_of hM.1
        omega
      obtain ⟨x, hxe, k1, k2⟩ := keys_get hM.1 i hiL
      have ex : x = e := Option.some.inj (hxe.symm.trans hi)
      subst ex
      have hnd : i ∉ done := fun hc => hns (by have := (mem_seen i hiL).2 hc; simpa [bornAt, hxe] using this)
      have hrun' : (execOp (Act.eval ⟨tm, []⟩) ⟨some d, .next it false, ty, pos, af, none⟩).run P w = .ok (.value (.tuple #[.bool true, mkey (L.getD i (0, 0, 0)).1 (L.getD i (0, 0, 0)).2.1, .int .i64 (L.getD i (0, 0, 0)).2.2])) (setBlock w1 gh.b (.mapIter (some b) since (seen.push x.born) clock)) := by
        simp only [execOp, hu, e5, Sem.run_bind, hrun, Result.andThen_ok, Sem.run_pure, k1, k2]
      rw [hrun']
      have hw1h : w1.heap = w.heap := by rcases hw1 with rfl | rfl <;> rfl
      refine hK _ _ (h1 i hiL hnd base w0 _ gs _ ((hr.upd hg hs trivial (.ob (itOb b es clock (done ++ [i]))) trivial (fun c _ hc => ?_) ?_ fun _ => ?_).put (.val _) d) (hb.trans (setBlock_below hw1 a3)) X Rt)
      · rw [setBlock_other _ _ _ _ (fun e => hc (by rw [a4, e]; simp)), hw1h]
      · simp [setBlock, hw1h]
      · exact ⟨_, setBlock_same _ _ _ (by rw [hw1h]; exact hlt), ⟨since, clock, seen.push x.born, rfl, q5, q2, by simp [q3, bornAt, hxe], .inr rfl, q5⟩, a3, a4, a5⟩

theorem q_idxarr {t e : TypeId} {n : Nat} [ht : TArr P t e n] {x y : Operand} {h i : Nat} {k : Int} (hx : AV.ev env x = .optr h i) (hy : AV.ev env y = .i k) (h0 : 0 ≤ k) (h1 : k < n) :
    QOp P wl ⟨d, .indexAddr t x y, ty, pos, af, g⟩ env os (.optr h (i + k.toNat)) :=
  .of_run fun _ w gs tm hr => by
    have hh := hr.ev x
    rw [hx] at hh
    generalize hv : Act.eval ⟨tm, []⟩ x = v at hh
    cases hh with
    | optr hg =>
      refine ⟨_, .optr hg, fun w' hw' => ?_⟩
      obtain ⟨ii, hi, hsz⟩ := ht.elm
      simp [execOp, hv, hr.evv hy, Instr.indexAt, run_underlying ht.und, asIntOf, Instr.sureAddr, sizeOf, typeInfo, hi, hsz, h0, h1, add_none]

variable {l rest : List Oper} {K : APost} {q : Md}
theorem w_idxarr {d : Tmp} {t e : TypeId} {n : Nat} [TArr P t e n] {x y : Operand} {h i j : Nat} {k : Int} (hw : wantedA l env ⟨some d, .indexAddr t x y, ty, pos, af, g⟩ = some true) (hx : evo env x = some (.optr h i)) (hy : evo env y = some (.i k)) (h0 : 0 ≤ k) (h1 : k < n) (hj : i + k.toNat = j)
    (h' : AOps P q l rest K (env.up d (.optr h j)) os) : AOps P q l (⟨some d, .indexAddr t x y, ty, pos, af, g⟩ :: rest) K env os :=
  AOps.qo hw (QOp.cast (by rw [hj]) (q_idxarr (ev_of hx) (ev_of hy) h0 h1)) h'
theorem w_maplook {d : Tmp} {T kt e ve : TypeId} {bb : Nat} [TMap P T kt ve] [TPair P kt e] [TElem P ve (.int .i64 0) bb] {m k : Operand} {h : Nat} {L : List (Int × Int × Int)} {i j : Int} (hw : wantedA l env ⟨some d, .lookup T m k false, ty, pos, af, g⟩ = some true) (hq : q.wl = false)
    (hm : evo env m = some (.own h)) (hs : os[h]? = some (.ob (mapOb L))) (hk : evo env k = some (.agg [.i i, .i j])) (h' : AOps P q l rest K (env.up d (.i (lookM L i j))) os) : AOps P q l (⟨some d, .lookup T m k false, ty, pos, af, g⟩ :: rest) K env os :=
  AOps.qo hw (by rw [hq]; exact q_maplook (ev_of hm) hs (ev_of hk)) h'
theorem w_makemap {d : Tmp} {T : TypeId} {m : Nat} (hm : os.length = m) (h' : AOps P .seq l rest K (env.up d (.own m)) (os ++ [.ob (mapOb [])])) : AOps P .seq l (⟨some d, .makeMap T none, ty, pos, af, none⟩ :: rest) K env os := by
  subst hm; exact AOps.lo l_makemap h'
theorem w_mapset {T kt e ve : TypeId} [TMap P T kt ve] [TPair P kt e] {m k v : Operand} {h : Nat} {L : List (Int × Int × Int)} {i j c : Int} (hm : evo env m = some (.own h)) (hs : os[h]? = some (.ob (mapOb L))) (hk : evo env k = some (.agg [.i i, .i j])) (hv : evo env v = some (.i c))
    (h' : AOps P .seq l rest K env (os.set h (.ob (mapOb (putM L i j c))))) : AOps P .seq l (⟨none, .mapUpdate T m k v, ty, pos, af, none⟩ :: rest) K env os :=
  AOps.so (l_mapset (ev_of hm) hs (ev_of hk) (ev_of hv)) h'
end
end Go.Proofs.Ytifkgmbghcmdeaa
/-
  A few polynomials (structs of one slice) handed on as a slice. No condition.
-/
namespace Go.Proofs.Ytifkgmbghcmdeaa
open Go Go.RowKit

section
variable {P : Program} {wl : Bool} {env : Env} {os : List AO} {d : Option Tmp} {ty : TypeId} {pos : String} {af : Array Edge} {g : Option (Nat × Bool)}

variable {l rest : List Oper} {K : APost} {q : Md}
end
end Go.Proofs.Ytifkgmbghcmdeaa
/-
  Lists of polynomials (structs of one slice): their parts, own lists of polynomials; parts of own slices handed back. No condition.
-/
namespace Go.Proofs.Ytifkgmbghcmdeaa
open Go Go.RowKit
section
variable {P : Program} {wl : Bool} {env : Env} {os : List AO} {d : Option Tmp} {ty : TypeId} {pos : String} {af : Array Edge} {g : Option (Nat × Bool)}

/-! ### Read as a list of polynomials -/
/-- The element 'a' reads as the polynomial 'f'; the handles behind it. -/
inductive PlE (os : List AO) : AV → List (List Int) → List Nat → Prop
  | intss (f : List (List Int)) : PlE os (.intss f) f []
  | nil : PlE os (.val (.slice none 0 0)) [] []
  | sls {h : Nat} {e e2 : TypeId} {f : List (List Int)} : os[h]? = some (.sls e e2 f) → PlE os (.own h) f [h]
theorem PlE.at {base : Nat} {w : World} {gs : List Gh} {ok : Nat → Prop} {a : AV} {f : List (List Int)} {hs : List Nat} (he : PlE os a f hs) (hro : ∀ (h : Nat) g o, gs[h]? = some g → os[h]? = some o → RO base w (okOf gs os) gs g o)
    (hok : ∀ h, h ∈ hs → ∀ g o, gs[h]? = some g → os[h]? = some o → o ≠ .dead → ∀ b, b ∈ g.bl → ok b) (kp : Keeps (okOf gs os) ok w w) {u : Value} (hu : RV w (okOf gs os) gs u a) : IntssAt w ok u f := by
  cases he with
  | intss => cases hu with | intss h => exact h.mono kp
  | nil => cases hu; exact IntssAt.nil
  | @sls h e e2 _ h1 =>
    cases hu with
    | own hg =>
      obtain ⟨vs, bs, mb, a1, a2, a3, a4, a5, a6, a7, a8⟩ := hro _ _ _ hg h1
      have hb := hok h (by simp) _ _ hg h1 (by simp)
      refine ⟨vs, RowAt.of_owns' a1 fun b hbb => hb b ?_, a2, fun i u hu => ⟨RowAt.of_owns' (a5 i u hu).1 fun b hbb => hb b ?_, (a5 i u hu).2.1⟩⟩
      · rw [a7]
        rcases a6 with ⟨h6, _⟩ | ⟨h6, h6'⟩
        · rw [h6] at hbb; cases hbb
        · rw [h6] at hbb; cases hbb; simp [h6']
      · have hi := (List.getElem?_eq_some_iff.1 hu).1
        rw [a7]
        refine List.mem_append.2 (.inr (List.mem_flatten.2 ⟨bs.getD i [], ?_, by rw [← (a5 i u hu).2.2, hbb]; simp⟩))
        rw [List.getD_eq_getElem?_getD, List.getElem?_eq_getElem (by omega)]
        simp
def PlL (os : List AO) : List AV → List (List (List Int)) → List Nat → Prop
  | [], [], hs => hs = []
  | a :: avs, f :: fs, hs => ∃ h1 h2, PlE os a f h1 ∧ PlL os avs fs h2 ∧ hs = h1 ++ h2
  | _, _, _ => False
theorem PlL.get : ∀ {avs : List AV} {fs : List (List (List Int))} {hs : List Nat}, PlL os avs fs hs → avs.length = fs.length ∧ ∀ (i : Nat) a, avs[i]? = some a → ∃ h1, PlE os a (fs.getD i []) h1 ∧ ∀ h, h ∈ h1 → h ∈ hs
  | [], [], hs, _ => ⟨rfl, fun i a h => by simp at h⟩
  | a :: avs, f :: fs, hs, ⟨h1, h2, p1, p2, e⟩ => by
    have ih := PlL.get p2
    refine ⟨by simp [ih.1], fun i x hx => ?_⟩
    match i with
    | 0 =>
      simp at hx; subst hx
      exact ⟨h1, by simpa using p1, fun h hh => by rw [e]; simp [hh]⟩
    | i + 1 =>
      obtain ⟨h3, q1, q2⟩ := ih.2 i x (by simpa using hx)
      exact ⟨h3, by simpa using q1, fun h hh => by rw [e]; simp [q2 h hh]⟩
  | [], _ :: _, _, h => h.elim
  | _ :: _, [], _, h => h.elim
/-! ### Parts of own slices -/
theorem Ret1.osub {h off len : Nat} {e : TypeId} {xs : List Int} (hs : os[h]? = some (.sli e xs)) : Ret1 os (.osub h off len) (.osub 0 off len) [.sli e xs] := fun base w gs env tm hr u hu => by
  cases hu with
  | osub hg hp hc hm =>
    exact ⟨[_], .one (hr.ho _ _ _ hg hs) fun b hb => hr.hn _ _ _ hg hs (by simp) b hb, .osub rfl hp hc hm⟩
end
section
variable {P : Program} {env : Env} {os : List AO} {d : Tmp} {ty : TypeId} {pos : String} {af : Array Edge} {g : Option (Nat × Bool)} {l rest : List Oper} {K : APost} {q : Md}
end
end Go.Proofs.Ytifkgmbghcmdeaa
/-
  A copy of a list. No condition but a bound on the size.
-/
namespace Go.Proofs.Ytifkgmbghcmdeaa
open Go Go.RowKit
attribute [local irreducible] AWp AOps ResIs Ret1 QOp LOp COp AFnV AFn Imms LeE LeO
set_option maxHeartbeats 1000000
set_option linter.unusedSimpArgs false
set_option linter.unusedVariables false

theorem l01Own_c (xs : List Int) (h2 : xs.length ≤ 1048576) : AFn Try.prog 92 [.ints xs] (IsInts 2 xs) := by
  (refine AFn.start Try.func92 Try.ntmps92 rfl (by kernel_rfl) fun hk => ?_; simp only [Env.start, enumF, List.length_cons, List.length_nil, Nat.reduceAdd, Nat.reduceSub, List.cons_append, List.nil_append])
  repeat' (first
  | (apply AOps.nil; try simp only [List.nil_append, List.cons_append, List.set_cons_zero, List.set_cons_succ, List.length_cons, List.length_nil, Nat.reduceAdd, AV.sh, AV.sh1, AV.sh0, AO.sh, List.map_cons, List.map_nil, Nat.zero_add, Nat.add_zero, setAll])
  | ((apply AOps.splitP; exact rfl; exact rfl) <;> intro h)
  | ((apply AOps.splitN; exact rfl; exact rfl) <;> intro h)
  | (apply w_move; exact rfl; exact rfl)
  | (apply w_assign; exact rfl; exact rfl)
  | apply AWp.seq
  | apply AWp.region
  | ((apply AWp.condP; exact rfl) <;> intro h)
  | ((apply AWp.condN; exact rfl) <;> intro h)
  | (apply AWp.condT; exact rfl)
  | (apply AWp.condF; exact rfl)
  | ((apply AWp.condB; exact rfl) <;> intro h)
  | apply AWp.block
  | apply AWp.ret
  | apply AWp.exit
  | apply AWp.skip
  | (apply AWp.regionQ; kernel_rfl; kernel_rfl)
  | (apply if_pos'; exact rfl)
  | (apply if_neg'; decide)
  | (apply w_skip; exact rfl)
  | (apply w_pickT; exact rfl; exact rfl; exact rfl)
  | (apply w_pickF; exact rfl; exact rfl; exact rfl)
  | (apply w_len; exact rfl; exact rfl; first | exact .ints _ | exact .intss _ | exact .sli rfl | exact .sls rfl | exact .slr rfl | exact .orow rfl | exact .nil)
  | ((first | apply w_lss | apply w_leq | apply w_gtr | apply w_geq | apply w_eql | apply w_neq | apply w_add | apply w_sub | apply w_mul | apply w_idx | apply w_ld | apply w_fld | apply w_fa | apply w_extv | apply w_min | apply w_max | apply w_slhi | apply w_sllo | apply w_bs2); iterate 3 exact rfl)
  | ((first | apply w_eqlb | apply w_neqb | apply w_idxs | apply w_lds | apply w_ext); iterate 3 exact rfl)
  | (apply w_rem; exact rfl; exact rfl; exact rfl; (focus (omega; done)); (focus (omega; done)))
  | (apply w_quo; exact rfl; exact rfl; exact rfl; (focus (omega; done)); (focus (omega; done)))
  | (apply w_remT; exact rfl; exact rfl; exact rfl)
  | (apply w_quoT; exact rfl; exact rfl; exact rfl)
  | ((first | apply w_not | apply w_neg | apply w_conv | apply w_build0 | apply w_bs1 | apply w_boxa); iterate 2 exact rfl)
  | (apply w_idxo; exact rfl; exact rfl; (first | exact .sli rfl | exact .sls rfl | exact .slr rfl); exact rfl)
  | ((first | apply w_idxr | apply w_ldr); iterate 4 exact rfl)
  | (apply w_ldo; iterate 4 exact rfl)
  | (apply w_ldls; iterate 4 exact rfl)
  | (apply w_ldrp; iterate 4 exact rfl)
  | (apply w_ldb; iterate 5 exact rfl)
  | (apply w_ldst; iterate 5 exact rfl)
  | ((first | apply w_sllh | apply w_stbi); iterate 4 exact rfl)
  | ((first | apply w_oslo | apply w_oshi | apply w_stbii); iterate 4 exact rfl)
  | (apply w_copy; exact rfl; (first | exact .own rfl rfl rfl | exact .osub); exact rfl; rotate_left 1; exact rfl; (first | exact .ints _ | exact .sli rfl | exact .orow rfl | exact .nil | exact .osub rfl (by simp; omega)))
  | (apply w_build1; exact rfl; exact rfl; (first | exact one_val rfl rfl | exact one_ints | exact one_intss | exact one_own rfl True.intro))
  | (apply w_build2; exact rfl; exact rfl; exact rfl; (first | exact one_val rfl rfl | exact one_ints | exact one_intss | exact one_own rfl True.intro); (first | exact one_val rfl rfl | exact one_ints | exact one_intss | exact one_own rfl True.intro))
  | (apply w_bs0; iterate 1 exact rfl)
  | (apply w_appn; exact rfl; exact rfl; (first | exact .ints _ | exact .sli rfl | exact .orow rfl | exact .nil | exact .osub rfl (by simp; omega)); exact rfl)
  | (apply w_app; exact rfl; exact rfl; exact rfl; exact rfl; (first | exact .ints _ | exact .sli rfl | exact .orow rfl | exact .nil | exact .osub rfl (by simp; omega)); rotate_left 1; simp only [Env.mp, List.map_cons, List.map_nil, List.set_cons_zero, List.set_cons_succ, AV.kill, AV.kill1, AO.kill, AV.noRow, AV.noRow1, AO.via, reduceIte, Nat.reduceEqDiff, Nat.reduceLT, Env.up, Nat.zero_ne_one, Nat.one_ne_zero, Nat.reduceAdd, List.cons_append, List.nil_append]; rotate_left 1)
  | (apply w_alst; iterate 2 exact rfl)
  | (apply w_alone; iterate 3 exact rfl)
  | (apply w_mki; exact rfl; exact rfl; rotate_left 3; exact rfl; rotate_left 1)
  | (apply w_mkr; exact rfl; exact rfl; rotate_left 3; exact rfl; rotate_left 1)
  | (apply w_strow; exact rfl; exact rfl; rotate_left 1; exact rfl; exact rfl; exact rfl; exact rfl; simp only [Env.mp, List.map_cons, List.map_nil, List.set_cons_zero, List.set_cons_succ, AV.kill, AV.kill1, AO.kill, AV.noRow, AV.noRow1, AO.via, reduceIte, Nat.reduceEqDiff, Nat.reduceLT, Env.up, Nat.zero_ne_one, Nat.one_ne_zero, Nat.reduceAdd, List.cons_append, List.nil_append]; rotate_left 1)
  | (apply w_sti; exact rfl; exact rfl; rotate_left 1; exact rfl; rotate_left 2)
  | (apply w_stst; iterate 5 exact rfl)
  | (apply w_stbv; iterate 6 exact rfl)
  | (apply w_stbo; exact rfl; exact rfl; exact rfl; exact rfl; exact rfl; exact True.intro)
  | ((apply AOps.splitB; exact rfl; exact rfl) <;> intro h)
  | apply AllOf.nil
  | (apply AllOf.cons; exact rfl)
  | (apply AAny.take; exact rfl; exact rfl; kernel_rfl; kernel_rfl)
  | (apply AAny.all; exact rfl)
  | (apply AAny.done; exact rfl)
  | (apply inI_of <;> omega)
  | omega
  | (simp <;> omega))
  all_goals exact ⟨_, _, _, .v1 Try.results92 rfl, .sli rfl, rfl, rfl⟩
theorem clone_c (xs : List Int) (h1 : 0 < xs.length) (h2 : xs.length ≤ 1048576) : AFn Try.prog 83 [.ints xs] (IsInts 2 xs) := by
  (refine AFn.start Try.func83 Try.ntmps83 rfl (by kernel_rfl) fun hk => ?_; simp only [Env.start, enumF, List.length_cons, List.length_nil, Nat.reduceAdd, Nat.reduceSub, List.cons_append, List.nil_append])
  repeat' (first
  | (apply AOps.nil; try simp only [List.nil_append, List.cons_append, List.set_cons_zero, List.set_cons_succ, List.length_cons, List.length_nil, Nat.reduceAdd, AV.sh, AV.sh1, AV.sh0, AO.sh, List.map_cons, List.map_nil, Nat.zero_add, Nat.add_zero, setAll])
  | ((apply AOps.splitP; exact rfl; exact rfl) <;> intro h)
  | ((apply AOps.splitN; exact rfl; exact rfl) <;> intro h)
  | (apply w_move; exact rfl; exact rfl)
  | (apply w_assign; exact rfl; exact rfl)
  | apply AWp.seq
  | apply AWp.region
  | ((apply AWp.condP; exact rfl) <;> intro h)
  | ((apply AWp.condN; exact rfl) <;> intro h)
  | (apply AWp.condT; exact rfl)
  | (apply AWp.condF; exact rfl)
  | ((apply AWp.condB; exact rfl) <;> intro h)
  | apply AWp.block
  | apply AWp.ret
  | apply AWp.exit
  | apply AWp.skip
  | (apply AWp.regionQ; kernel_rfl; kernel_rfl)
  | (apply if_pos'; exact rfl)
  | (apply if_neg'; decide)
  | (apply w_skip; exact rfl)
  | (apply w_pickT; exact rfl; exact rfl; exact rfl)
  | (apply w_pickF; exact rfl; exact rfl; exact rfl)
  | (apply w_len; exact rfl; exact rfl; first | exact .ints _ | exact .intss _ | exact .sli rfl | exact .sls rfl | exact .slr rfl | exact .orow rfl | exact .nil)
  | ((first | apply w_lenos | apply w_not | apply w_neg | apply w_conv | apply w_build0 | apply w_bs1 | apply w_boxa); iterate 2 exact rfl)
  | (apply w_idxos; iterate 3 exact rfl)
  | ((first | apply w_osubhi | apply w_alone); iterate 3 exact rfl)
  | (apply w_eqnil; iterate 2 exact rfl)
  | ((first | apply w_lss | apply w_leq | apply w_gtr | apply w_geq | apply w_eql | apply w_neq | apply w_add | apply w_sub | apply w_mul | apply w_idx | apply w_ld | apply w_fld | apply w_fa | apply w_extv | apply w_min | apply w_max | apply w_slhi | apply w_sllo | apply w_bs2); iterate 3 exact rfl)
  | ((first | apply w_eqlb | apply w_neqb | apply w_idxs | apply w_lds | apply w_ext); iterate 3 exact rfl)
  | (apply w_rem; exact rfl; exact rfl; exact rfl; (focus (omega; done)); (focus (omega; done)))
  | (apply w_quo; exact rfl; exact rfl; exact rfl; (focus (omega; done)); (focus (omega; done)))
  | (apply w_remT; exact rfl; exact rfl; exact rfl)
  | (apply w_quoT; exact rfl; exact rfl; exact rfl)
  | (apply w_idxo; exact rfl; exact rfl; (first | exact .sli rfl | exact .sls rfl | exact .slr rfl); exact rfl)
  | ((first | apply w_idxr | apply w_ldr); iterate 4 exact rfl)
  | (apply w_ldo; iterate 4 exact rfl)
  | (apply w_ldls; iterate 4 exact rfl)
  | (apply w_ldrp; iterate 4 exact rfl)
  | (apply w_ldb; iterate 5 exact rfl)
  | (apply w_ldst; iterate 5 exact rfl)
  | ((first | apply w_sllh | apply w_stbi); iterate 4 exact rfl)
  | ((first | apply w_oslo | apply w_oshi | apply w_stbii); iterate 4 exact rfl)
  | (apply w_copy; exact rfl; (first | exact .own rfl rfl rfl | exact .osub); exact rfl; rotate_left 1; exact rfl; (first | exact .ints _ | exact .sli rfl | exact .orow rfl | exact .nil | exact .osub rfl (by simp; omega)))
  | (apply w_build1; exact rfl; exact rfl; (first | exact one_val rfl rfl | exact one_ints | exact one_intss | exact one_own rfl True.intro))
  | (apply w_build2; exact rfl; exact rfl; exact rfl; (first | exact one_val rfl rfl | exact one_ints | exact one_intss | exact one_own rfl True.intro); (first | exact one_val rfl rfl | exact one_ints | exact one_intss | exact one_own rfl True.intro))
  | (apply w_bs0; iterate 1 exact rfl)
  | (apply w_appn; exact rfl; exact rfl; (first | exact .ints _ | exact .sli rfl | exact .orow rfl | exact .nil | exact .osub rfl (by simp; omega)); exact rfl)
  | (apply w_app; exact rfl; exact rfl; exact rfl; exact rfl; (first | exact .ints _ | exact .sli rfl | exact .orow rfl | exact .nil | exact .osub rfl (by simp; omega)); rotate_left 1; simp only [Env.mp, List.map_cons, List.map_nil, List.set_cons_zero, List.set_cons_succ, AV.kill, AV.kill1, AO.kill, AV.noRow, AV.noRow1, AO.via, reduceIte, Nat.reduceEqDiff, Nat.reduceLT, Env.up, Nat.zero_ne_one, Nat.one_ne_zero, Nat.reduceAdd, List.cons_append, List.nil_append]; rotate_left 1)
  | (apply w_alst; iterate 2 exact rfl)
  | (apply w_mki; exact rfl; exact rfl; rotate_left 3; exact rfl; rotate_left 1)
  | (apply w_mkr; exact rfl; exact rfl; rotate_left 3; exact rfl; rotate_left 1)
  | (apply w_strow; exact rfl; exact rfl; rotate_left 1; exact rfl; exact rfl; exact rfl; exact rfl; simp only [Env.mp, List.map_cons, List.map_nil, List.set_cons_zero, List.set_cons_succ, AV.kill, AV.kill1, AO.kill, AV.noRow, AV.noRow1, AO.via, reduceIte, Nat.reduceEqDiff, Nat.reduceLT, Env.up, Nat.zero_ne_one, Nat.one_ne_zero, Nat.reduceAdd, List.cons_append, List.nil_append]; rotate_left 1)
  | (apply w_sti; exact rfl; exact rfl; rotate_left 1; exact rfl; rotate_left 2)
  | (apply w_stst; iterate 5 exact rfl)
  | (apply w_stbv; iterate 6 exact rfl)
  | (apply w_stbo; exact rfl; exact rfl; exact rfl; exact rfl; exact rfl; exact True.intro)
  | ((apply AOps.splitB; exact rfl; exact rfl) <;> intro h)
  | apply AllOf.nil
  | (apply AllOf.cons; exact rfl)
  | (apply AAny.take; exact rfl; exact rfl; kernel_rfl; kernel_rfl)
  | (apply AAny.all; exact rfl)
  | (apply AAny.done; exact rfl)
  | (apply inI_of <;> omega)
  | omega
  | (simp <;> omega))
  all_goals exact ⟨_, _, _, .v1 Try.results83 rfl, .sli rfl, rfl, rfl⟩
end Go.Proofs.Ytifkgmbghcmdeaa
/-
  Regions that draw their order: a load is taken first where nothing that may come ahead of it writes. No condition.
-/
namespace Go.Proofs.Ytifkgmbghcmdeaa
open Go Go.RowKit

/-- Whatever order is picked; behind an operation of G what was there is there still. -/
def wpAnyG (P : Program) (ops : Array Oper) (Q : Exit → Act → World → Prop) (G : Nat → Bool) : Nat → Array Bool → Act → World → Prop
  | 0, listed, a, w => Region.ready .any ops listed = [] ∧ Q .normal a w
  | fuel + 1, listed, a, w =>
    (Region.ready .any ops listed = [] → Q .normal a w) ∧
    ∀ i ∈ Region.ready .any ops listed, wpOp P ops Q i (fun a' w' => (G i = true → Below w.heap.size w w') ∧ wpAnyG P ops Q G fuel (listed.setIfInBounds i true) a' w') a w

theorem wpAny_of_G {P : Program} {ops : Array Oper} {Q : Exit → Act → World → Prop} {G : Nat → Bool} : ∀ (fuel : Nat) (listed : Array Bool) (a : Act) (w : World), wpAnyG P ops Q G fuel listed a w → wpAny P .any ops Q fuel listed a w
  | 0, _, _, _, h => h
  | fuel + 1, _, _, _, h => ⟨h.1, fun i hi => wpOp_mono (fun a' w' h' => wpAny_of_G fuel _ a' w' h'.2) (h.2 i hi)⟩

theorem wpAnyG_first {P : Program} {ops : Array Oper} {Q : Exit → Act → World → Prop} {G : Nat → Bool} {w0 : World} {i : Nat} {oi : Oper} {v : Value} (hi : ops[i]? = some oi) (hsel : ∀ (j : Nat) (o : Oper) cs b, ops[j]? = some o → o.op ≠ .select cs b)
    (hQ : ∀ c a w, Q (.panic c) (a.put oi.dst v) w → Q (.panic c) a w) (W : Nat → Bool)
    (hW : ∀ j oj, ops[j]? = some oj → W j = true → ∃ e ∈ oj.after, Region.binds .any e = true ∧ (e.on = i ∨ W e.on = true)) :
    ∀ (fuel : Nat) (listed : Array Bool) (a : Act) (w : World),
      (∀ j, W j = true → listed.getD j true = false) → listed.getD i true = false →
      (∀ j oj, ops[j]? = some oj → j ≠ i → listed.getD j true = false → W j = false → G j = true ∧ oi.apart ops oj = true) →
      i ∈ Region.ready .any ops listed → YieldsIf P ops (fun w' => Below w0.heap.size w0 w') oi v a → Below w0.heap.size w0 w →
      wpAnyG P ops Q G fuel (listed.setIfInBounds i true) (a.put oi.dst v) w → wpAnyG P ops Q G (fuel + 1) listed a w := by
  intro fuel
  induction fuel with
  | zero =>
    intro listed a w _ _ _ hr hy hS H
    refine ⟨fun h => (by rw [h] at hr; cases hr), fun j hj => ?_⟩
    by_cases hji : j = i
    · subst hji; exact hy.wpOp hi hS ⟨fun _ => Below.refl _ _, H⟩
    · have := ready_mono hj hji
      rw [H.1] at this
      cases this
  | succ fuel ih =>
    intro listed a w hWl hil hfree hr hy hS H
    refine ⟨fun h => (by rw [h] at hr; cases hr), fun j hj => ?_⟩
    by_cases hji : j = i
    · subst hji; exact hy.wpOp hi hS ⟨fun _ => Below.refl _ _, H⟩
    · have h1 := H.2 j (ready_mono hj hji)
      obtain ⟨hjun, oj, hoj, hall⟩ := mem_ready.1 hj
      have hWj : W j = false := by
        cases hc : W j with
        | false => rfl
        | true =>
          obtain ⟨e, he, hb, hor⟩ := hW j oj hoj hc
          have h1 := hall e he hb
          have tf : listed.getD e.on true = false → False := fun h0 => by
            rcases Nat.lt_or_ge e.on listed.size with h' | h'
            · simp [h'] at h0 h1; rw [h0] at h1; cases h1
            · simp [Array.getElem?_eq_none h'] at h1
          rcases hor with hor | hor
          · rw [hor] at tf; exact (tf hil).elim
          · exact (tf (hWl _ hor)).elim
      obtain ⟨hG, hap⟩ := hfree j oj hoj hji hjun hWj
      have h2 := wpOp_putIf hoj hap (fun cs b => hsel i oi cs b hi) (fun cs b => hsel j oj cs b hoj) hQ hy h1
      have gne : ∀ {k : Nat}, k ≠ j → (listed.setIfInBounds j true).getD k true = listed.getD k true := fun hk => getD_set_ne true (Ne.symm hk)
      refine wpOp_mono (fun a' w' h3 => ⟨h3.2.1, ih (listed.setIfInBounds j true) a' w' ?_ ?_ ?_ (ready_mono hr (Ne.symm hji)) h3.1 ?_ ?_⟩) h2
      · intro k hk
        rw [gne (fun e => by subst e; rw [hWj] at hk; cases hk)]
        exact hWl k hk
      · rw [gne (fun e => hji e.symm)]; exact hil
      · intro k ok hk hki hun hWk
        by_cases hkj : k = j
        · subst hkj
          exact hfree k ok hk hki hjun hWk
        · rw [gne hkj] at hun
          exact hfree k ok hk hki hun hWk
      · have := h3.2.1 hG
        exact hS.trans (this.mono hS.size)
      · rw [Array.setIfInBounds_comm _ _ hji]
        exact h3.2.2

theorem wpAnyG_firstY {P : Program} {ops : Array Oper} {Q : Exit → Act → World → Prop} {G : Nat → Bool} {i : Nat} {oi : Oper} {v : Value} (hi : ops[i]? = some oi) (hsel : ∀ (j : Nat) (o : Oper) cs b, ops[j]? = some o → o.op ≠ .select cs b)
    (hQ : ∀ c a w, Q (.panic c) (a.put oi.dst v) w → Q (.panic c) a w) :
    ∀ (fuel : Nat) (listed : Array Bool) (a : Act) (w : World),
      (∀ j oj, ops[j]? = some oj → j ≠ i → listed.getD j true = false → (∀ e ∈ oj.after, Region.binds .any e = true → e.on ≠ i) → oi.apart ops oj = true) →
      i ∈ Region.ready .any ops listed → Yields P ops oi v a →
      wpAnyG P ops Q G fuel (listed.setIfInBounds i true) (a.put oi.dst v) w → wpAnyG P ops Q G (fuel + 1) listed a w := by
  intro fuel
  induction fuel with
  | zero =>
    intro listed a w _ hr hy H
    refine ⟨fun h => (by rw [h] at hr; cases hr), fun j hj => ?_⟩
    by_cases hji : j = i
    · subst hji; exact hy.wpOp hi ⟨fun _ => Below.refl _ _, H⟩
    · have := ready_mono hj hji
      rw [H.1] at this
      cases this
  | succ fuel ih =>
    intro listed a w hfree hr hy H
    refine ⟨fun h => (by rw [h] at hr; cases hr), fun j hj => ?_⟩
    by_cases hji : j = i
    · subst hji; exact hy.wpOp hi ⟨fun _ => Below.refl _ _, H⟩
    · have h1 := H.2 j (ready_mono hj hji)
      obtain ⟨hjun, oj, hoj, hall⟩ := mem_ready.1 hj
      have hnot : ∀ e ∈ oj.after, Region.binds .any e = true → e.on ≠ i := fun e he hb heq => by
        have h1 := hall e he hb
        have h0 := (mem_ready.1 hr).1
        rw [heq] at h1
        rcases Nat.lt_or_ge i listed.size with h' | h'
        · simp [h'] at h0 h1; rw [h0] at h1; cases h1
        · simp [Array.getElem?_eq_none h'] at h1
      have h2 := wpOp_put hoj (hfree j oj hoj hji hjun hnot) (fun cs b => hsel i oi cs b hi) (fun cs b => hsel j oj cs b hoj) hQ hy h1
      have hfree' : ∀ k ok, ops[k]? = some ok → k ≠ i → (listed.setIfInBounds j true).getD k true = false →
          (∀ e ∈ ok.after, Region.binds .any e = true → e.on ≠ i) → oi.apart ops ok = true := fun k ok hk hki hun hno => by
        refine hfree k ok hk hki ?_ hno
        by_cases hjk : j = k
        · subst hjk; exact hjun
        · rw [getD_set_ne true hjk] at hun; exact hun
      refine wpOp_mono (fun a' w' h3 => ⟨h3.2.1, ih (listed.setIfInBounds j true) a' w' hfree' (ready_mono hr (Ne.symm hji)) h3.1 ?_⟩) h2
      rw [Array.setIfInBounds_comm _ _ hji]
      exact h3.2.2

/-- What writes nothing: no world asked, a load, a call of one of these functions. -/
def gentB (qs : List Nat) (o : Oper) : Bool :=
  wlessB o || match o.op with
    | .load _ _ => true
    | .call c => match c.callee with
      | .value (.func f) => qs.contains f
      | _ => false
    | _ => false
def gentle (qs : List Nat) (l : List Oper) (j : Nat) : Bool := match l[j]? with | some o => gentB qs o | none => false

/-- Which ones wait for i. -/
def waitsFor (i : Nat) : List Oper → List Bool → List Bool
  | [], acc => acc
  | o :: os, acc => waitsFor i os (acc ++ [o.after.toList.any fun e => Region.binds .any e && (e.on == i || acc.getD e.on false)])
def okW (l : List Oper) (i : Nat) (W : List Bool) : Bool := (List.range l.length).all fun j => !W.getD j false || match l[j]? with | some o => o.after.toList.any fun e => Region.binds .any e && (e.on == i || W.getD e.on false) | none => false
/-- i may be taken first. -/
def freeG (qs : List Nat) (l : List Oper) (listed : List Bool) (i : Nat) : Bool :=
  let W := waitsFor i l []
  okW l i W && W.length == l.length && (List.range l.length).all (fun j => !W.getD j false || !listed.getD j true) && !listed.getD i true &&
    match l[i]? with
    | none => false
    | some oi => (List.range l.length).all fun j => j == i || listed.getD j true || W.getD j false || match l[j]? with
      | some oj => gentB qs oj && oi.apart l.toArray oj
      | none => true

def AAnyG (P : Program) (qs : List Nat) (l : List Oper) (fuel : Nat) (listed : List Bool) (K : APost) (env : Env) (os : List AO) : Prop :=
  ∀ base w0 w gs tm, Rel base w gs env os tm → Below base w0 w → ∀ X Rt, wpAnyG P l.toArray (Post base w0 K X Rt) (gentle qs l) fuel listed.toArray ⟨tm, []⟩ w

/-- Each of these comes up next. -/
def AllOfG (P : Program) (qs : List Nat) (l : List Oper) (fuel : Nat) (listed : List Bool) (K : APost) (env : Env) (os : List AO) : List Nat → Prop
  | [] => True
  | i :: is => (∃ o, l[i]? = some o ∧ AOps P (cond (gentB qs o) .quiet .seq) l [o] (fun env os => AAnyG P qs l fuel (listed.set i true) K env os) env os) ∧ AllOfG P qs l fuel listed K env os is

section
variable {P : Program} {N : APost} {X : Nat → APost} {Rt : APost} {env : Env} {os : List AO} {l : List Oper} {K : APost} {fuel : Nat} {listed : List Bool} {qs : List Nat}

theorem AllOfG.get : ∀ {rs : List Nat}, AllOfG P qs l fuel listed K env os rs → ∀ i ∈ rs, ∃ o, l[i]? = some o ∧ AOps P (cond (gentB qs o) .quiet .seq) l [o] (fun env os => AAnyG P qs l fuel (listed.set i true) K env os) env os
  | [], _, i, h => by cases h
  | j :: rs, h, i, hi => by
    rcases List.mem_cons.1 hi with rfl | hi
    · exact h.1
    · exact AllOfG.get h.2 i hi
theorem AllOfG.nil : AllOfG P qs l fuel listed K env os [] := trivial
theorem AllOfG.consS {i : Nat} {o : Oper} {is : List Nat} (ho : l[i]? = some o) (hg : gentB qs o = false) (h : AOps P .seq l [o] (fun env os => AAnyG P qs l fuel (listed.set i true) K env os) env os) (hs : AllOfG P qs l fuel listed K env os is) :
    AllOfG P qs l fuel listed K env os (i :: is) := ⟨⟨o, ho, by rw [hg]; exact h⟩, hs⟩

theorem AAnyG.all {i : Nat} {is : List Nat} (hr : rdyGo listed 0 l = i :: is) (h : AllOfG P qs l fuel listed K env os (i :: is)) : AAnyG P qs l (fuel + 1) listed K env os := by
  intro base w0 w gs tm hrel hb X Rt
  refine ⟨fun h0 => ?_, fun j hj => ?_⟩
  · have : i ∈ Region.ready .any l.toArray listed.toArray := mem_rdy.2 (by rw [hr]; simp)
    rw [h0] at this; cases this
  · have hj' := mem_rdy.1 hj
    rw [hr] at hj'
    obtain ⟨o, ho, hop⟩ := h.get j hj'
    have ho' : l.toArray[j]? = some o := by simpa using ho
    have hgj : gentle qs l j = gentB qs o := by unfold gentle; rw [ho]
    have kk : ∀ a w', Post base w0 (fun env os => AAnyG P qs l fuel (listed.set j true) K env os) X Rt .normal a w' → wpAnyG P l.toArray (Post base w0 K X Rt) (gentle qs l) fuel (listed.toArray.setIfInBounds j true) a w' := by
      rintro a w' ⟨env', os', gs', h1, h2, h3, h4⟩
      have ea : a = ⟨a.tmps, []⟩ := by cases a; simp_all
      rw [ea]
      have := h4 base w0 w' gs' a.tmps h1 h3 X Rt
      rwa [show listed.toArray.setIfInBounds j true = (listed.set j true).toArray from by simp]
    cases hg : gentB qs o with
    | false =>
      rw [hg] at hop
      have := hop base w0 w gs tm hrel hb X Rt
      unfold wpOp
      rw [ho']
      unfold wpList at this
      simp only
      rw [hgj, hg]
      split
      · rename_i hw
        rw [if_pos hw] at this
        rcases this with this | ⟨h1, ⟨a, w', h2⟩⟩
        · exact .inl (Oper.wp_mono2 (fun a w' h => ⟨fun e => (by cases e), kk a w' h⟩) (fun _ _ _ h => (h : False).elim) (fun ⟨_, _, h⟩ => (h : False).elim) this)
        · exact (h2 : False).elim
      · rename_i hw
        rw [if_neg hw] at this
        exact ⟨fun e => (by cases e), kk _ _ this⟩
    | true =>
      rw [hg] at hop
      have := hop base w gs tm hrel
      unfold wpOp
      rw [ho']
      unfold wpQuiet at this
      simp only
      have kq : ∀ (a : Act) w', Below w.heap.size w w' → wpQuiet P l.toArray (fun w' => Below w.heap.size w w') (fun a' => ∃ env' os' gs', AAnyG P qs l fuel (listed.set j true) K env' os' ∧ a'.defers = [] ∧ ∀ w', Below w.heap.size w w' → Rel base w' gs' env' os' a'.tmps) [] a →
          (gentle qs l j = true → Below w.heap.size w w') ∧ wpAnyG P l.toArray (Post base w0 K X Rt) (gentle qs l) fuel (listed.toArray.setIfInBounds j true) a w' := by
        rintro a w' hbw ⟨env', os', gs', h1, h2, h3⟩
        exact ⟨fun _ => hbw, kk a w' ⟨env', os', gs', h3 w' hbw, h2, hb.trans (hbw.mono hrel.hb), h1⟩⟩
      split
      · rename_i hw
        rw [if_pos hw] at this
        obtain ⟨v, hv, hn⟩ := this
        refine .inl (Oper.wp_of_quiet (C := fun w' => Below w.heap.size w w') (K := fun a' => a' = Act.put ⟨tm, []⟩ o.dst v) (Below.refl _ _) ?_ ⟨v, hv, rfl⟩)
        intro a' w' hw' he
        subst he
        exact kq _ w' hw' hn
      · rename_i hw
        rw [if_neg hw] at this
        exact kq _ w (Below.refl _ _) this

theorem AAnyG.done (hr : rdyGo listed 0 l = []) (h : K env os) : AAnyG P qs l fuel listed K env os := by
  intro base w0 w gs tm hrel hb X Rt
  have hr' : Region.ready .any l.toArray listed.toArray = [] := by
    apply List.eq_nil_iff_forall_not_mem.2
    intro j hj
    have := mem_rdy.1 hj
    rw [hr] at this; cases this
  cases fuel with
  | zero => exact ⟨hr', env, os, gs, hrel, rfl, hb, h⟩
  | succ n => exact ⟨fun _ => ⟨env, os, gs, hrel, rfl, hb, h⟩, by rw [hr']; intro j hj; cases hj⟩

theorem run_load_val {P : Program} {ρ : Operand → Value} {d : Option Tmp} {t : TypeId} {x : Operand} {ty : TypeId} {pos : String} {af : Array Edge} {g : Option (Nat × Bool)} {w w' : World} {n : Next} (h : (execOp ρ ⟨d, .load t x, ty, pos, af, g⟩).run P w = .ok n w') : ∃ u, n = .value u := by
  simp only [execOp, Sem.run_bind, Sem.run_pure, Result.andThen] at h
  split at h
  · cases h; exact ⟨_, rfl⟩
  · cases h

theorem free_parts {i : Nat} {oi : Oper} (hi : l[i]? = some oi) (h : freeG qs l listed i = true) : ∃ W : Nat → Bool,
    (∀ j oj, l[j]? = some oj → W j = true → ∃ e ∈ oj.after, Region.binds .any e = true ∧ (e.on = i ∨ W e.on = true)) ∧ (∀ j, W j = true → listed.getD j true = false) ∧ listed.getD i true = false ∧
    (∀ j oj, l[j]? = some oj → j ≠ i → listed.getD j true = false → W j = false → gentle qs l j = true ∧ oi.apart l.toArray oj = true) := by
  simp only [freeG, hi, okW, Bool.and_eq_true, List.all_eq_true, List.mem_range] at h
  obtain ⟨⟨⟨⟨h1, h2⟩, h3⟩, h4⟩, h5⟩ := h
  have hlen : (waitsFor i l []).length = l.length := by simpa using h2
  have lt : ∀ j, (waitsFor i l []).getD j false = true → j < l.length := fun j hj => by
    rcases Nat.lt_or_ge j l.length with h | h
    · exact h
    · rw [List.getD_eq_getElem?_getD, List.getElem?_eq_none (by omega)] at hj; cases hj
  refine ⟨fun j => (waitsFor i l []).getD j false, fun j oj hj hw => ?_, fun j hw => ?_, by simpa using h4, fun j oj hj hne hun hw => ?_⟩
  · have := h1 j (lt j hw)
    simp only [hw, hj, Bool.not_true, Bool.false_or, List.any_eq_true, Bool.and_eq_true, Bool.or_eq_true, beq_iff_eq] at this
    obtain ⟨e, he, hb, hor⟩ := this
    exact ⟨e, by simpa using he, hb, hor⟩
  · have := h3 j (lt j hw)
    simp only [hw, Bool.not_true, Bool.false_or] at this
    simpa using this
  · have := h5 j (List.getElem?_eq_some_iff.1 hj).1
    have hne' : (j == i) = false := by simpa using hne
    simp only [hj, hne', hun, hw, Bool.false_or, Bool.and_eq_true] at this
    exact ⟨by unfold gentle; rw [hj]; exact this.1, this.2⟩

/-- An operation that needs no world is taken first. -/
theorem AAnyG.takeW {i : Nat} {o : Oper} (hi : findW l (rdyGo listed 0 l) = some i) (ho : l[i]? = some o) (hs : Region.noSelect l.toArray = true) (hf : Region.free .any l.toArray listed.toArray i = true)
    (h : AOps P .wless l [o] (fun env os => AAnyG P qs l fuel (listed.set i true) K env os) env os) : AAnyG P qs l (fuel + 1) listed K env os := by
  intro base w0 w gs tm hrel hb X Rt
  obtain ⟨v, hy, env', os', gs', hk, hd, hr'⟩ := h base w gs tm hrel
  have ho' : l.toArray[i]? = some o := by simpa using ho
  refine wpAnyG_firstY (oi := o) (v := v) ho' (Region.noSelect_spec hs) (fun _ _ _ h => h.elim) fuel listed.toArray _ _ (Region.free_spec ho' hf) (mem_rdy.2 (findW_mem hi)) hy ?_
  have := hk base w0 w gs' _ hr' hb X Rt
  rw [show listed.toArray.setIfInBounds i true = (listed.set i true).toArray from by simp]
  have e : (⟨(Act.put ⟨tm, []⟩ o.dst v).tmps, []⟩ : Act) = Act.put ⟨tm, []⟩ o.dst v := by
    have : (Act.put ⟨tm, []⟩ o.dst v).defers = [] := hd
    generalize Act.put ⟨tm, []⟩ o.dst v = a at this
    cases a; simp_all
  rw [e] at this
  exact this

def isLoad (o : Oper) : Bool := match o.op with | .load _ _ => true | _ => false
def findL (qs : List Nat) (l : List Oper) (listed : List Bool) : List Nat → Option Nat
  | [] => none
  | i :: is => cond ((match l[i]? with | some o => isLoad o | none => false) && freeG qs l listed i) (some i) (findL qs l listed is)
theorem findL_spec : ∀ {is : List Nat} {i : Nat}, findL qs l listed is = some i → i ∈ is ∧ freeG qs l listed i = true
  | [], _, h => by cases h
  | j :: is, i, h => by
    simp only [findL] at h
    cases hb : ((match l[j]? with | some o => isLoad o | none => false) && freeG qs l listed j) with
    | true => rw [hb] at h; simp at h; subst h; rw [Bool.and_eq_true] at hb; exact ⟨by simp, hb.2⟩
    | false => rw [hb] at h; have := findL_spec h; exact ⟨List.mem_cons_of_mem _ this.1, this.2⟩

/-- A load is taken first. -/
theorem AAnyG.takeL {i : Nat} {d : Option Tmp} {t : TypeId} {x : Operand} {ty : TypeId} {pos : String} {af : Array Edge} {g : Option (Nat × Bool)} (hi : findL qs l listed (rdyGo listed 0 l) = some i) (ho : l[i]? = some ⟨d, .load t x, ty, pos, af, g⟩) (hs : Region.noSelect l.toArray = true)
    (h : AOps P .quiet l [⟨d, .load t x, ty, pos, af, g⟩] (fun env os => AAnyG P qs l fuel (listed.set i true) K env os) env os) : AAnyG P qs l (fuel + 1) listed K env os := by
  intro base w0 w gs tm hrel hb X Rt
  have hq := h base w gs tm hrel
  obtain ⟨hm, hf⟩ := findL_spec hi
  obtain ⟨W, f1, f2, f3, f4⟩ := free_parts ho hf
  have key : ∀ v, YieldsIf P l.toArray (fun w' => Below w.heap.size w w') ⟨d, .load t x, ty, pos, af, g⟩ v ⟨tm, []⟩ →
      wpQuiet P l.toArray (fun w' => Below w.heap.size w w') (fun a' => ∃ env' os' gs', AAnyG P qs l fuel (listed.set i true) K env' os' ∧ a'.defers = [] ∧ ∀ w', Below w.heap.size w w' → Rel base w' gs' env' os' a'.tmps) [] (Act.put ⟨tm, []⟩ d v) →
      wpAnyG P l.toArray (Post base w0 K X Rt) (gentle qs l) (fuel + 1) listed.toArray ⟨tm, []⟩ w := by
    rintro v hy ⟨env', os', gs', hk, hd, hr'⟩
    refine wpAnyG_first (w0 := w) (v := v) (by simpa using ho) (Region.noSelect_spec hs) (fun _ _ _ h => h.elim) W (fun j oj hj => f1 j oj (by simpa using hj)) fuel listed.toArray _ _
      (fun j hj => by have := f2 j hj; simpa [List.getD_eq_getElem?_getD, Array.getD_eq_getD_getElem?] using this) (by simpa [List.getD_eq_getElem?_getD, Array.getD_eq_getD_getElem?] using f3)
      (fun j oj hj hne hun => f4 j oj (by simpa using hj) hne (by simpa [List.getD_eq_getElem?_getD, Array.getD_eq_getD_getElem?] using hun)) (mem_rdy.2 hm) hy (Below.refl _ _) ?_
    have := hk base w0 w gs' _ (hr' w (Below.refl _ _)) hb X Rt
    rw [show listed.toArray.setIfInBounds i true = (listed.set i true).toArray from by simp]
    have e : (⟨(Act.put ⟨tm, []⟩ d v).tmps, []⟩ : Act) = Act.put ⟨tm, []⟩ d v := by
      have : (Act.put ⟨tm, []⟩ d v).defers = [] := hd
      generalize Act.put ⟨tm, []⟩ d v = a at this
      cases a; simp_all
    rw [e] at this
    exact this
  unfold wpQuiet at hq
  split at hq
  · rename_i hw
    obtain ⟨v, hv, hn⟩ := hq
    refine key v (.inl ⟨hw, fun w' hw' => ?_⟩) hn
    have := hv w' hw'
    unfold Oper.quietAt at this
    generalize hrun : (execOp (Act.eval ⟨tm, []⟩) ⟨d, .load t x, ty, pos, af, g⟩).run P w' = r at this
    cases r with
    | ok n w1 =>
      obtain ⟨u, rfl⟩ := run_load_val hrun
      simp only [Oper.quietUpon] at this
      rw [this.1, this.2]
    | halt y w1 => simp only [Oper.quietUpon] at this
  · rename_i hw
    exact key undef (.inr ⟨by simpa using hw, rfl⟩) hq

/-- A region that draws its order: every order comes to a state that may be seen as (envC, osC). 'qs': functions that are only called for their plain values. -/
theorem AWp.regionG (qs : List Nat) {id : Nat} (hm : P.follows .mixedOrders = true) {envC : Env} {osC : List AO} {n : Nat} (hn : l.length = n) {listed : List Bool} (hl : List.replicate n false = listed)
    (h : AAnyG P qs l n listed (fun e o => Fit e o envC osC ∨ ∃ σ, FitS σ e o envC osC) env os) (hk : N envC osC) : AWp P (.region id l.toArray true) N X Rt env os := by
  refine AWp.regionA hm hn hl (fun base w0 w gs tm hr hb X Rt => wpAny_of_G _ _ _ _ (h base w0 w gs tm hr hb X Rt)) hk
end
end Go.Proofs.Ytifkgmbghcmdeaa
/-
  Remainders of polynomials in one unknown: the walks. No condition but bounds.
-/
namespace Go.Proofs.Ytifkgmbghcmdeaa
open Go Go.RowKit
attribute [local irreducible] AWp AOps ResIs Ret1 QOp LOp COp AFnV AFn Imms LeE LeO
set_option maxHeartbeats 1000000
set_option linter.unusedSimpArgs false
set_option linter.unusedVariables false

/-- A list, in a part of a new slice. -/
def IsPt (T : TypeId) (R : List Int) (r : AV) (os : List AO) : Prop := ∃ (xs : List Int) (n : Nat), n ≤ xs.length ∧ xs.take n = R ∧ r = .osub 0 0 n ∧ os = [.sli T xs]
theorem clonep_c (xs : List Int) (h1 : 0 < xs.length) (h2 : xs.length ≤ 1048576) : AFn Try.prog 83 [.ints xs] (fun r os => r = .osub 0 0 xs.length ∧ os = [.sli 2 xs]) := by
  (refine AFn.start Try.func83 Try.ntmps83 rfl (by kernel_rfl) fun hk => ?_; simp only [Env.start, enumF, List.length_cons, List.length_nil, Nat.reduceAdd, Nat.reduceSub, List.cons_append, List.nil_append])
  repeat' (first | (apply AOps.nil; try simp only [List.nil_append, List.cons_append, List.set_cons_zero, List.set_cons_succ, List.length_cons, List.length_nil, Nat.reduceAdd, AV.sh, AV.sh1, AV.sh0, AO.sh, List.map_cons, List.map_nil, Nat.zero_add, Nat.add_zero, setAll]) | (apply w_move; exact rfl; exact rfl) | (apply w_assign; exact rfl; exact rfl) | apply AWp.seq | apply AWp.region | (apply AWp.condF; exact rfl) | apply AWp.ret | apply AWp.skip | (apply w_eqnil; iterate 2 exact rfl) | (apply w_bs0; iterate 1 exact rfl) | (apply w_app; exact rfl; exact rfl; exact rfl; exact rfl; (exact .ints _); rotate_left 1; simp only [Env.mp, List.map_cons, List.map_nil, List.set_cons_zero, List.set_cons_succ, AV.kill, AV.kill1, AO.kill, AV.noRow, AV.noRow1, AO.via, reduceIte, Nat.reduceEqDiff, Nat.reduceLT, Env.up, Nat.zero_ne_one, Nat.one_ne_zero, Nat.reduceAdd, List.cons_append, List.nil_append]; rotate_left 1) | omega | (simp <;> omega))
  all_goals exact ⟨_, _, _, .v1 Try.results83 rfl, .part rfl, rfl, rfl⟩
theorem take_upd {q : List Int} {f : Int} {sh : Nat} {zs p : List Int} {n : Nat} (hp : zs.take n = p) (hn : n ≤ zs.length) (hs : sh + q.length ≤ n) : ∀ i, i ≤ q.length → (updI q f sh zs i).take n = updI q f sh p i
  | 0, _ => hp
  | i + 1, h => by
    have ih := take_upd (f := f) hp hn hs i (by omega)
    rw [updI, updI, List.take_set, ih]
    congr 2
    have : geti (updI q f sh p i) ((sh + i : Nat) : Int) = geti (updI q f sh zs i) ((sh + i : Nat) : Int) := by
      rw [← ih, geti_take _ _ _ (by omega)]
    rw [this]
theorem take_tr {zs p : List Int} {n : Nat} (hp : zs.take n = p) (hn : n ≤ zs.length) : zs.take (tlen zs n) = tr p := by
  have hl : p.length = n := by rw [← hp]; simp; omega
  have := tlen_le zs n
  unfold tr
  rw [hl, ← hp, tlen_take _ _ _ (Nat.le_refl _), List.take_take, Nat.min_eq_left (by omega)]

set_option maxHeartbeats 4000000 in
theorem remainder_c (p q : List Int) (hp : inF p) (hq : inF q) (ht : Tm q) (h0 : 0 < q.length) (hpl : p.length ≤ 1000) (hql : q.length ≤ 1000) (hp0 : 0 < (tr p).length) : AFn Try.prog 101 [.ints p, .ints q] (IsPt 2 (remD p q)) := by
  have hz := hq ((q.length - 1 : Nat) : Int)
  have hinv := inverse_c (geti q (((q.length : Int) - 1).toNat : Nat)) (by rw [show ((q.length : Int) - 1).toNat = q.length - 1 by omega]; exact hz)
  have esc : pwF (geti q (((q.length : Int) - 1).toNat : Nat)) 55439 = scQ q := by unfold scQ; rw [show ((q.length : Int) - 1).toNat = q.length - 1 by omega]
  rw [esc] at hinv
  have hsc := scQ_ok hq ht h0
  have hscb := pwF_in (geti q ((q.length - 1 : Nat) : Int)) 55439
  change 0 ≤ scQ q ∧ scQ q ≤ 55440 at hscb
  have htl := tr_le p
  have hcl := clonep_c (tr p) hp0 (by omega)
  (refine AFn.start Try.func101 Try.ntmps101 rfl (by kernel_rfl) fun hk => ?_; simp only [Env.start, enumF, List.length_cons, List.length_nil, Nat.reduceAdd, Nat.reduceSub, List.cons_append, List.nil_append])
  repeat' (first | (apply AOps.nil; try simp only [List.nil_append, List.cons_append, List.set_cons_zero, List.set_cons_succ, List.length_cons, List.length_nil, Nat.reduceAdd, AV.sh, AV.sh1, AV.sh0, AO.sh, List.map_cons, List.map_nil, Nat.zero_add, Nat.add_zero, setAll]) | (apply w_move; exact rfl; exact rfl) | (apply w_assign; exact rfl; exact rfl) | apply AWp.seq | apply AWp.region | apply AWp.block | (apply w_len; exact rfl; exact rfl; first | exact .ints _ | exact .intss _ | exact .sli rfl | exact .sls rfl | exact .slr rfl | exact .orow rfl | exact .nil) | ((first | apply w_trimp | apply w_sub | apply w_idx | apply w_ld); iterate 3 exact rfl) | (apply w_callm (hcl); (focus ((repeat (first | exact im_nil | refine im_cons rfl (.ints _) ?_)); done)); rintro r os0 ⟨rfl, rfl⟩; try simp only [List.nil_append, List.cons_append, List.set_cons_zero, List.set_cons_succ, List.length_cons, List.length_nil, Nat.reduceAdd, AV.sh, AV.sh1, AV.sh0, AO.sh, List.map_cons, List.map_nil, Nat.zero_add, Nat.add_zero, setAll]) | (apply w_call (hinv); exact rfl; exact rfl; focus ((repeat (first | exact im_nil | refine im_cons rfl (.val _) ?_)); done)) | omega | (apply inI_of <;> omega))
  refine AWp.loop (ι := Nat × List Int × Nat) (fun s => ⟨65, [(0, .osub 0 0 s.2.2), (1, .ints q), (5, .i (scQ q))]⟩) (fun s => [.sli 2 s.2.1]) (fun s => s.2.2 ≤ s.2.1.length ∧ inF s.2.1 ∧ s.2.1.length ≤ 1000 ∧ s.2.2 ≤ s.1 ∧ remF q (scQ q) s.1 (s.2.1.take s.2.2) = remD p q) (fun s => s.2.2) ((tr p).length, tr p, (tr p).length)
    ⟨Nat.le_refl _, inF_tr hp, by simp only; omega, Nat.le_refl _, by simp only [List.take_length]; rfl⟩ ⟨lee rfl (by (repeat (first | exact le_nil | refine le_eq rfl rfl ?_))), by (repeat (first | exact lo_nil | refine lo_eq rfl ?_)), rfl, rfl⟩ ?_
  rintro ⟨k, zs, n⟩ ⟨h1, h2, h3, h4, h5⟩
  simp only at h1 h2 h3 h4 h5
  have hln : (zs.take n).length = n := by simp; omega
  by_cases hlt : n < q.length
  · repeat' (first | (apply AOps.nil; try simp only [List.nil_append, List.cons_append, List.set_cons_zero, List.set_cons_succ, List.length_cons, List.length_nil, Nat.reduceAdd, AV.sh, AV.sh1, AV.sh0, AO.sh, List.map_cons, List.map_nil, Nat.zero_add, Nat.add_zero, setAll]) | (apply w_move; exact rfl; exact rfl) | (apply w_assign; exact rfl; exact rfl) | apply AWp.seq | apply AWp.region | ((apply AWp.condP; exact rfl) <;> intro h) | apply AWp.block | apply AWp.ret | apply AWp.exit | apply AWp.skip | (apply w_len; exact rfl; exact rfl; first | exact .ints _ | exact .intss _ | exact .sli rfl | exact .sls rfl | exact .slr rfl | exact .orow rfl | exact .nil) | ((apply w_lenos); iterate 2 exact rfl) | omega | ((apply w_geq); iterate 3 exact rfl))
    rw [remF_done (by omega)] at h5
    exact ⟨_, _, _, .v1 Try.results101 rfl, .osub rfl, zs, n, h1, h5, rfl, rfl⟩
  · obtain ⟨k, rfl⟩ : ∃ k', k = k' + 1 := ⟨k - 1, by omega⟩
    have en : ((n : Int) - 1).toNat = n - 1 := by omega
    have hb1 := h2 ((((n : Int) - 1).toNat : Nat) : Int)
    have hm1 : 0 ≤ geti zs ((((n : Int) - 1).toNat : Nat) : Int) * scQ q ∧ geti zs ((((n : Int) - 1).toNat : Nat) : Int) * scQ q ≤ 55440 * 55440 := ⟨Int.mul_nonneg hb1.1 hscb.1, Int.mul_le_mul hb1.2 hscb.2 hscb.1 (by omega)⟩
    have hm1z : 0 ≤ geti zs ((0 + ((n : Int) - 1).toNat : Nat) : Int) * scQ q ∧ geti zs ((0 + ((n : Int) - 1).toNat : Nat) : Int) * scQ q ≤ 55440 * 55440 := by rw [Nat.zero_add]; exact hm1
    have hf : ∃ fac : Int, fac = 55441 - geti zs ((((n : Int) - 1).toNat : Nat) : Int) * scQ q % 55441 := ⟨_, rfl⟩
    obtain ⟨fac, hfac⟩ := hf
    have hfb : 0 ≤ fac ∧ fac ≤ 55441 := by omega
    have hfr : fac = facR (zs.take n) (scQ q) := by
      unfold facR
      rw [hln, geti_take _ _ _ (by omega), hfac, en]
    repeat' (first | (apply AOps.nil; try simp only [List.nil_append, List.cons_append, List.set_cons_zero, List.set_cons_succ, List.length_cons, List.length_nil, Nat.reduceAdd, AV.sh, AV.sh1, AV.sh0, AO.sh, List.map_cons, List.map_nil, Nat.zero_add, Nat.add_zero, setAll]) | (apply w_move; exact rfl; exact rfl) | (apply w_assign; exact rfl; exact rfl) | apply AWp.seq | apply AWp.region | ((apply AWp.condP; exact rfl) <;> intro h) | apply AWp.block | apply AWp.ret | apply AWp.exit | apply AWp.skip | (apply w_len; exact rfl; exact rfl; first | exact .ints _ | exact .intss _ | exact .sli rfl | exact .sls rfl | exact .slr rfl | exact .orow rfl | exact .nil) | ((apply w_lenos); iterate 2 exact rfl) | (apply w_idxos; iterate 3 exact rfl) | omega | ((first | apply w_geq | apply w_sub | apply w_mul | apply w_ld); iterate 3 exact rfl) | (apply w_rem; exact rfl; exact rfl; exact rfl; (focus (omega; done)); (focus (omega; done))) | (apply w_ldo; iterate 4 exact rfl) | (apply inI_of <;> omega))
    refine AWp.loop (ι := Nat) (fun i => ⟨65, [(0, .osub 0 0 n), (1, .ints q), (5, .i (scQ q)), (6, .i fac), (35, .ints q), (36, .i q.length), (37, .i i)]⟩) (fun i => [.sli 2 (updI q fac (n - q.length) zs i)]) (fun i => i ≤ q.length) (fun i => q.length - i) 0 (by omega) ⟨lee rfl (by (repeat (first | exact le_nil | refine le_eq rfl rfl ?_ | refine le_eq rfl (congrArg AV.i (by omega)) ?_))), lo_eq rfl lo_nil, rfl, rfl⟩ ?_
    rintro i hi0
    have hul := updI_len q fac (n - q.length) zs i
    have hui := updI_in (q := q) fac (n - q.length) h2 i
    by_cases hi : i < q.length
    · have ei : ((n : Int) - (q.length : Int) + (i : Int)).toNat = n - q.length + i := by omega
      have hb2 := hui ((((n : Int) - (q.length : Int) + (i : Int)).toNat : Nat) : Int)
      have hb2z := hui ((0 + ((n : Int) - (q.length : Int) + (i : Int)).toNat : Nat) : Int)
      have hb3 := hq (i : Nat)
      have hm2 : 0 ≤ fac * geti q (i : Nat) ∧ fac * geti q (i : Nat) ≤ 55441 * 55440 := ⟨Int.mul_nonneg hfb.1 hb3.1, Int.mul_le_mul hfb.2 hb3.2 hb3.1 (by omega)⟩
      repeat' (first | (apply AOps.nil; try simp only [List.nil_append, List.cons_append, List.set_cons_zero, List.set_cons_succ, List.length_cons, List.length_nil, Nat.reduceAdd, AV.sh, AV.sh1, AV.sh0, AO.sh, List.map_cons, List.map_nil, Nat.zero_add, Nat.add_zero, setAll]) | (apply w_move; exact rfl; exact rfl) | (apply w_assign; exact rfl; exact rfl) | apply AWp.seq | apply AWp.region | ((apply AWp.condP; exact rfl) <;> intro h) | apply AWp.block | apply AWp.exit | apply AWp.skip | (apply w_len; exact rfl; exact rfl; first | exact .ints _ | exact .intss _ | exact .sli rfl | exact .sls rfl | exact .slr rfl | exact .orow rfl | exact .nil) | ((apply w_lenos); iterate 2 exact rfl) | (apply w_idxos; iterate 3 exact rfl) | omega | ((first | apply w_lss | apply w_add | apply w_sub | apply w_mul | apply w_idx | apply w_ld); iterate 3 exact rfl) | (apply w_rem; exact rfl; exact rfl; exact rfl; (focus (omega; done)); (focus (omega; done))) | (apply w_ldo; iterate 4 exact rfl) | (apply w_sti; exact rfl; exact rfl; rotate_left 1; exact rfl; rotate_left 2) | (apply inI_of <;> omega))
      have e2 : (updI q fac (n - q.length) zs i).set ((n : Int) - (q.length : Int) + (i : Int)).toNat ((geti (updI q fac (n - q.length) zs i) ((((n : Int) - (q.length : Int) + (i : Int)).toNat : Nat) : Int) + fac * geti q (i : Nat)) % 55441) = updI q fac (n - q.length) zs (i + 1) := by rw [ei]; rfl
      exact ⟨i + 1, hi, by omega, ⟨lee rfl (by (repeat (first | exact le_nil | refine le_eq rfl rfl ?_))), by (repeat (first | exact lo_nil | refine lo_eq (congrArg (AO.sli _) (e2)) ?_)), rfl, rfl⟩⟩
    · have ei : i = q.length := by omega
      subst ei
      repeat' (first | (apply AOps.nil; try simp only [List.nil_append, List.cons_append, List.set_cons_zero, List.set_cons_succ, List.length_cons, List.length_nil, Nat.reduceAdd, AV.sh, AV.sh1, AV.sh0, AO.sh, List.map_cons, List.map_nil, Nat.zero_add, Nat.add_zero, setAll]) | (apply w_move; exact rfl; exact rfl) | (apply w_assign; exact rfl; exact rfl) | apply AWp.seq | apply AWp.region | ((apply AWp.condP; exact rfl) <;> intro h) | apply AWp.block | apply AWp.exit | apply AWp.skip | ((apply w_trimos); iterate 4 exact rfl) | omega | ((apply w_lss); iterate 3 exact rfl))
      have e3 := take_upd (q := q) (f := fac) (sh := n - q.length) (zs := zs) (p := zs.take n) (n := n) rfl h1 (by omega) q.length (Nat.le_refl _)
      have e4 : updI q fac (n - q.length) (zs.take n) q.length = stR q (scQ q) (zs.take n) := by unfold stR; rw [hln, hfr]
      rw [e4] at e3
      have e5 := take_tr e3 (by omega)
      have hst := stR_tr (q := q) (p := zs.take n) (sc := scQ q) h0 (by omega) hsc
      have hle := tlen_le (updI q fac (n - q.length) zs q.length) n
      have e6 : ((updI q fac (n - q.length) zs q.length).take (tlen (updI q fac (n - q.length) zs q.length) n)).length = tlen (updI q fac (n - q.length) zs q.length) n := by rw [List.length_take]; omega
      rw [e5] at e6
      rw [remF_step (by omega), ← e5] at h5
      refine ⟨(k, updI q fac (n - q.length) zs q.length, tlen (updI q fac (n - q.length) zs q.length) n), ⟨by simp only; omega, hui, by simp only; omega, by simp only; omega, h5⟩, by simp only; omega, ⟨lee rfl (by (repeat (first | exact le_nil | refine le_eq rfl rfl ?_))), by (repeat (first | exact lo_nil | refine lo_eq rfl ?_)), rfl, rfl⟩⟩
end Go.Proofs.Ytifkgmbghcmdeaa
/-
  A row of an own slice of rows is handed to a function that writes to it. No condition.
-/
namespace Go.Proofs.Ytifkgmbghcmdeaa
open Go Go.RowKit

section
variable {P : Program} {env : Env} {os : List AO} {d : Tmp} {ty : TypeId} {pos : String} {af : Array Edge} {l rest : List Oper} {K : APost}
end

end Go.Proofs.Ytifkgmbghcmdeaa
/-
  A literal slice of one row, as an own slice of rows. No condition.
-/
namespace Go.Proofs.Ytifkgmbghcmdeaa
open Go Go.RowKit
section
variable {P : Program} {env : Env} {os : List AO} {d : Option Tmp} {ty : TypeId} {pos : String} {af : Array Edge} {g : Option (Nat × Bool)}

theorem l_bsr1s {t e e2 : TypeId} {bytes : Nat} [ht : TSlice P t e] [he : TElem P e (.slice none 0 0) bytes] [ht2 : TSlice P e e2] {x : Operand} {k : Nat} {e3 : TypeId} {ys : List Int} (hx : AV.ev env x = .own k) (hk : os[k]? = some (.sli e3 ys)) (he3 : e3 = e2) :
    LOp P ⟨d, .buildSlice t 1 #[(0, x)], ty, pos, af, g⟩ env os (.own os.length) (env.mp (AV.rin k os.length 0)) (((((os ++ [AO.sls e e2 []]).map (AO.via (AV.rin k os.length 0) os.length)).set os.length (.sls e e2 [ys])).set k .dead)) := by
  subst he3
  intro base w gs tm hr
  have hxv := hr.ev x
  rw [hx] at hxv
  generalize hv : Act.eval ⟨tm, []⟩ x = v at hxv
  cases hxv with
  | @own _ gk hgk =>
    obtain ⟨b1, b2, b3⟩ := hr.ho _ _ _ hgk hk
    obtain ⟨ua, uc, eu⟩ := ownsRow_slice b1
    obtain ⟨ii, hi, hs, hz, hby⟩ := he.info
    have hkl : k < os.length := (List.getElem?_eq_some_iff.1 hk).1
    let g0 : Gh := ⟨.slice none 0 0, 0, [], []⟩
    have hr1 : Rel base w (gs ++ [g0]) env (os ++ [.sls e e3 []]) tm := hr.new (Below.refl _ _) _ g0 (fun _ b hb => by simp [g0] at hb) ⟨[], [], [], World.ownsRow_nil w base e 1, rfl, rfl, rfl, fun i u h => (by simp at h), .inl ⟨rfl, rfl⟩, rfl, by simp [g0]⟩
    have hl := hr.hl
    have hgp : (gs ++ [g0])[os.length]? = some g0 := by rw [← hl]; simp
    have hop : (os ++ [AO.sls e e3 []])[os.length]? = some (.sls e e3 []) := by simp
    have hgk' : (gs ++ [g0])[k]? = some gk := by rw [List.getElem?_append_left (by omega)]; exact hgk
    have hok' : (os ++ [AO.sls e e3 []])[k]? = some (.sli e3 ys) := by rw [List.getElem?_append_left hkl]; exact hk
    have hpl : os.length < (gs ++ [g0]).length := by simp; omega
    let w' := w.alloc (.cells [gk.v].toArray e)
    let g' : Gh := ⟨.slice (some ⟨w.heap.size, 0, none⟩) 1 1, w.heap.size, [w.heap.size] ++ gk.bl, [gk.v]⟩
    have hbel : Below w.heap.size w w' := below_alloc w _
    have hblk : ∀ b, b ∈ gk.bl → b < w.heap.size := fun b hb => (hr.hn _ _ _ hgk hk (by simp) b hb).2
    have sv : RowIn os.length k 0 (gs ++ [g0]) ((gs ++ [g0]).set os.length g') := by
      refine ⟨fun j z hj hz => ?_, fun z hz => ⟨g', by rw [List.getElem?_set_self hpl], fun i u hiu => ?_⟩, fun z hz => ⟨g', by rw [List.getElem?_set_self hpl], ?_⟩⟩
      · rw [List.getElem?_set, if_neg (fun e => hj e.symm)]; exact hz
      · rw [hgp] at hz; cases hz; simp [g0] at hiu
      · rw [hgk'] at hz; cases hz; rfl
    refine ⟨.slice (some ⟨w.heap.size, 0, none⟩) 1 1, w', (gs ++ [g0]).set os.length g', .inl ?_, hr1.absorb hgp hop trivial hgk' hok' trivial (by omega) g' (.sls e e3 [ys]) (AV.rin k os.length 0) rfl (fun b hb _ => hbel.block b hb) hbel.size ?_ (fun kp hv => hv.rin kp sv) ?_, ?_, hbel.mono hr.hb⟩
    · simp [execOp, Instr.buildSlice, run_underlying ht.und, sizeOf, typeInfo, zeroValue, hi, hs, hz, Instr.fill, newRow, hv, eu, Value.cells, ar1, w']
    · intro b hb
      have hsz : w'.heap.size = w.heap.size + 1 := by simp [w']
      rcases List.mem_append.1 hb with hb | hb
      · simp at hb
        exact ⟨.inr (.inr (by omega)), by omega⟩
      · have := hblk b hb
        exact ⟨.inr (.inl hb), by omega⟩
    · intro kp
      refine ⟨[gk.v], [gk.bl], [w.heap.size], ⟨rfl, .inr ⟨w.heap.size, 1, _, rfl, hr.hb, heap_alloc_new w _, Nat.le_refl _, by simp [maxLen], by simp, by simp⟩⟩, rfl, rfl, rfl, fun j u hj => ?_, .inr ⟨rfl, rfl⟩, by simp [g'], ?_⟩
      · match j with
        | 0 =>
          simp at hj
          subst hj
          exact ⟨ownsRow_of_block b1 fun c hc => hbel.block c (hblk c (b3.mem hc)), b2, b3.list⟩
        | j + 1 => simp at hj
      · show ([w.heap.size] ++ gk.bl).Nodup
        rw [List.singleton_append, List.nodup_cons]
        exact ⟨fun hc => by have := hblk _ hc; omega, b3.nodup⟩
    · exact RV.own (g := g') (by rw [List.getElem?_set_self hpl])
end
section
variable {P : Program} {env : Env} {os : List AO} {d : Tmp} {ty : TypeId} {pos : String} {af : Array Edge} {l rest : List Oper} {K : APost}
theorem w_bsr1s {t e e2 e3 : TypeId} {bytes : Nat} [TSlice P t e] [TElem P e (.slice none 0 0) bytes] [TSlice P e e2] {x : Operand} {k m : Nat} {ys : List Int} (hx : evo env x = some (.own k)) (hk : os[k]? = some (.sli e3 ys)) (he3 : e3 = e2) (hm : os.length = m)
    (h' : AOps P .seq l rest K (Env.up (env.mp (AV.rin k m 0)) d (.own m)) (((((os ++ [AO.sls e e2 []]).map (AO.via (AV.rin k m 0) m)).set m (.sls e e2 [ys])).set k .dead))) :
    AOps P .seq l (⟨some d, .buildSlice t 1 #[(0, x)], ty, pos, af, none⟩ :: rest) K env os := by
  subst hm
  exact AOps.lo (l_bsr1s (ev_of hx) hk he3) h'
end
section
variable {P : Program} {N : APost} {X : Nat → APost} {Rt : APost} {env : Env} {os : List AO}
/-- A loop whose rounds may number the objects anew. -/
theorem AWp.loopS {c : Code} {ι : Type} (E : ι → Env) (O : ι → List AO) (φ : ι → Prop) (μ : ι → Nat) (x0 : ι) (h0 : φ x0) (f0 : Fit env os (E x0) (O x0))
    (round : ∀ x, φ x → AWp P c (fun env' os' => ∃ y, φ y ∧ μ y < μ x ∧ (Fit env' os' (E y) (O y) ∨ ∃ σ, FitS σ env' os' (E y) (O y))) X Rt (E x) (O x)) : AWp P (.loop c) N X Rt env os := by
  intro base w0 w gs tm hr hb
  obtain ⟨gs0, hr0⟩ := hr.fit f0
  refine wp_loop_ghost (fun n a w' => ∃ x gs', φ x ∧ μ x = n ∧ Rel base w' gs' (E x) (O x) a.tmps ∧ a.defers = [] ∧ Below base w0 w') (μ x0) ⟨x0, gs0, h0, rfl, hr0, rfl, hb⟩ ?_
  rintro n a w1 ⟨x, gs1, hφ, rfl, hr1, hd, hb1⟩
  have ea : a = ⟨a.tmps, []⟩ := by cases a; simp_all
  rw [ea]
  refine wp_mono (round x hφ base w0 w1 gs1 a.tmps hr1 hb1) ?_
  intro e a' w' hq
  cases e with
  | normal =>
    obtain ⟨env', os', gs', r1, r2, r3, y, hy, hlt, hf⟩ := hq
    rcases hf with hf | ⟨σ, hf⟩
    · obtain ⟨gs2, hr2⟩ := r1.fit hf
      exact ⟨μ y, hlt, y, gs2, hy, rfl, hr2, r2, r3⟩
    · obtain ⟨gs2, hr2⟩ := r1.fits hf
      exact ⟨μ y, hlt, y, gs2, hy, rfl, hr2, r2, r3⟩
  | exit j => exact hq
  | ret => exact hq
  | goto l => exact hq
  | panic ch => exact hq
  | outgrown => exact hq
end

end Go.Proofs.Ytifkgmbghcmdeaa
/-
  Whether a polynomial in one unknown has a multiple root: the program. No condition but bounds.
-/
namespace Go.Proofs.Ytifkgmbghcmdeaa
open Go Go.RowKit
attribute [local irreducible] AWp AOps ResIs Ret1 QOp LOp COp AFnV AFn Imms LeE LeO
set_option maxHeartbeats 1000000
set_option linter.unusedSimpArgs false
set_option linter.unusedVariables false

/-- The first n entries of the derivative. -/
def dvN (p : List Int) (n : Nat) : List Int := (List.range n).map fun i => geti (p.drop 1) (i : Nat) * ((i : Nat) + 1) % 55441
theorem dvN_len (p : List Int) (n : Nat) : (dvN p n).length = n := by simp [dvN]
theorem dvN_succ (p : List Int) (n : Nat) : dvN p n ++ [geti (p.drop 1) (n : Nat) * ((n : Nat) + 1) % 55441] = dvN p (n + 1) := by simp [dvN, List.range_succ]
theorem dvN_in (p : List Int) (n : Nat) : inF (dvN p n) := by
  intro i
  unfold geti dvN
  rw [List.getD_eq_getElem?_getD, List.getElem?_map]
  cases h : (List.range n)[i.toNat]? with
  | none => simp
  | some k => simp only [Option.map_some, Option.getD_some]; omega
def dvL (p : List Int) : List Int := dvN p (p.length - 1)
/-- Euclid's last rest of p and its derivative. -/
def sqR (p : List Int) : List Int := euF (tr (dvL p)).length p (tr (dvL p))
def pqA (s : Option ((List Int × Nat) × (List Int × Nat))) (p : List Int) : AV := match s with | none => .ints p | some s => .osub 0 0 s.1.2
def pqB (s : Option ((List Int × Nat) × (List Int × Nat))) (n : Nat) : AV := match s with | none => .osub 0 0 n | some s => .osub 1 0 s.2.2
def pqO (s : Option ((List Int × Nat) × (List Int × Nat))) (T : TypeId) (d : List Int) : List AO := match s with | none => [.sli T d] | some s => [.sli T s.1.1, .sli T s.2.1]
def pqI (R : List Int) (s : Option ((List Int × Nat) × (List Int × Nat))) : Prop := match s with
  | none => True
  | some ((A, n), (B, m)) => n ≤ A.length ∧ m ≤ B.length ∧ n ≤ 1000 ∧ inF (A.take n) ∧ Tm (A.take n) ∧ 0 < n ∧ inF (B.take m) ∧ Tm (B.take m) ∧ m < n ∧ euF m (A.take n) (B.take m) = R
def pqM (n : Nat) (s : Option ((List Int × Nat) × (List Int × Nat))) : Nat := match s with | none => n | some s => s.2.2
theorem take_len {A : List Int} {n : Nat} (h : n ≤ A.length) : (A.take n).length = n := by simp; omega
theorem tm_pos {p : List Int} (h : Tm p) (h0 : 0 < p.length) : 0 < (tr p).length := by rw [tr_tm h]; exact h0
theorem euF_step {a b : List Int} {k : Nat} (h : b.length ≠ 0) : euF (k + 1) a b = euF k b (remD a b) := by rw [euF, if_neg h]
theorem euF_le {a b : List Int} (ha : inF a) (hb : inF b) (ht : Tm b) : ∀ (k m : Nat), b.length ≤ k → k ≤ m → euF m a b = euF k a b := by
  intro k
  induction k generalizing a b with
  | zero => intro m h _; rw [euF_done (by omega), euF_done (by omega)]
  | succ k ih =>
    intro m h h2
    by_cases h0 : b.length = 0
    · rw [euF_done h0, euF_done h0]
    · obtain ⟨m, rfl⟩ : ∃ m', m = m' + 1 := ⟨m - 1, by omega⟩
      rw [euF_step h0, euF_step h0]
      obtain ⟨r1, r2, r3⟩ := remD_ok ha hb ht (by omega)
      exact ih hb r2 r3 m (by omega) (by omega)

set_option maxHeartbeats 8000000 in
theorem isSquareFree_c (p : List Int) (hp : inF p) (hl : 2 ≤ p.length) (hl2 : p.length ≤ 1000) (hp0 : 0 < (tr p).length) : AFnV Try.prog 75 [.ints p] (.bool (decide ((sqR p).length = 1))) := by
  have hd1 : (p.drop 1).length = p.length - 1 := by simp
  (refine AFnV.start Try.func75 Try.ntmps75 rfl (by kernel_rfl) fun hk => ?_; simp only [Env.start, enumF, List.length_cons, List.length_nil, Nat.reduceAdd, Nat.reduceSub, List.cons_append, List.nil_append])
  repeat' (first | (apply AOps.nil; try simp only [List.nil_append, List.cons_append, List.set_cons_zero, List.set_cons_succ, List.length_cons, List.length_nil, Nat.reduceAdd, AV.sh, AV.sh1, AV.sh0, AO.sh, List.map_cons, List.map_nil, Nat.zero_add, Nat.add_zero, setAll]) | (apply w_move; exact rfl; exact rfl) | (apply w_assign; exact rfl; exact rfl) | apply AWp.seq | apply AWp.region | apply AWp.block | (apply w_len; exact rfl; exact rfl; first | exact .ints _ | exact .intss _ | exact .sli rfl | exact .sls rfl | exact .slr rfl | exact .orow rfl | exact .nil) | omega | ((apply w_sllo); iterate 3 exact rfl) | (apply w_bs0; iterate 1 exact rfl))
  refine AWp.loop (ι := Nat) (fun n => ⟨36, [(0, .ints p), (3, .own 0), (8, .ints (p.drop 1)), (9, .i (p.drop 1).length), (10, .i n)]⟩) (fun n => [.sli 2 (dvN p n)]) (fun n => n ≤ p.length - 1) (fun n => p.length - 1 - n) 0 (by omega) ⟨lee rfl (by (repeat (first | exact le_nil | refine le_eq rfl rfl ?_))), by (repeat (first | exact lo_nil | refine lo_eq rfl ?_)), rfl, rfl⟩ ?_
  intro n hn
  have hdn := dvN_len p n
  by_cases h1 : n < p.length - 1
  · have hb : 0 ≤ geti (p.drop 1) (n : Nat) ∧ geti (p.drop 1) (n : Nat) ≤ 55440 := by
      have := hp ((1 + n : Nat) : Int)
      have e : geti (p.drop 1) (n : Nat) = geti p ((1 + n : Nat) : Int) := by unfold geti; rw [Int.toNat_natCast, Int.toNat_natCast]; simp [List.getD_eq_getElem?_getD, List.getElem?_drop, Nat.add_comm]
      rw [e]; exact this
    have hm : 0 ≤ geti (p.drop 1) (n : Nat) * ((n : Nat) + 1) ∧ geti (p.drop 1) (n : Nat) * ((n : Nat) + 1) ≤ 55440 * 1001 := ⟨Int.mul_nonneg hb.1 (by omega), Int.mul_le_mul hb.2 (by omega) (by omega) (by omega)⟩
    repeat' (first | (apply AOps.nil; try simp only [List.nil_append, List.cons_append, List.set_cons_zero, List.set_cons_succ, List.length_cons, List.length_nil, Nat.reduceAdd, AV.sh, AV.sh1, AV.sh0, AO.sh, List.map_cons, List.map_nil, Nat.zero_add, Nat.add_zero, setAll]) | (apply w_move; exact rfl; exact rfl) | (apply w_assign; exact rfl; exact rfl) | apply AWp.seq | apply AWp.region | ((apply AWp.condP; exact rfl) <;> intro h) | apply AWp.block | apply AWp.exit | apply AWp.skip | ((apply w_bs1); iterate 2 exact rfl) | omega | ((first | apply w_lss | apply w_add | apply w_mul | apply w_idx | apply w_ld); iterate 3 exact rfl) | (apply w_rem; exact rfl; exact rfl; exact rfl; (focus (omega; done)); (focus (omega; done))) | (apply w_app; exact rfl; exact rfl; exact rfl; exact rfl; (exact .sli rfl); rotate_left 1; simp only [Env.mp, List.map_cons, List.map_nil, List.set_cons_zero, List.set_cons_succ, AV.kill, AV.kill1, AO.kill, AV.noRow, AV.noRow1, AO.via, reduceIte, Nat.reduceEqDiff, Nat.reduceLT, Env.up, Nat.zero_ne_one, Nat.one_ne_zero, Nat.reduceAdd, List.cons_append, List.nil_append]; rotate_left 1) | (apply inI_of <;> omega) | (simp <;> omega))
    exact ⟨n + 1, h1, by omega, ⟨lee rfl (by (repeat (first | exact le_nil | refine le_eq rfl rfl ?_))), by (repeat (first | exact lo_nil | refine lo_eq (congrArg (AO.sli _) (dvN_succ p n)) ?_)), rfl, rfl⟩⟩
  have en : n = p.length - 1 := by omega
  subst en
  have hdi := dvN_in p (p.length - 1)
  have hT := tlen_le (dvN p (p.length - 1)) (dvN p (p.length - 1)).length
  have htk : (dvN p (p.length - 1)).take (tlen (dvN p (p.length - 1)) (dvN p (p.length - 1)).length) = tr (dvL p) := rfl
  have htl := tr_len (dvL p)
  have hti : inF (tr (dvL p)) := inF_tr hdi
  have htm : Tm (tr (dvL p)) := tm_tr _
  change (tr (dvL p)).length = tlen (dvN p (p.length - 1)) (dvN p (p.length - 1)).length at htl
  repeat' (first | (apply AOps.nil; try simp only [List.nil_append, List.cons_append, List.set_cons_zero, List.set_cons_succ, List.length_cons, List.length_nil, Nat.reduceAdd, AV.sh, AV.sh1, AV.sh0, AO.sh, List.map_cons, List.map_nil, Nat.zero_add, Nat.add_zero, setAll]) | (apply w_move; exact rfl; exact rfl) | (apply w_assign; exact rfl; exact rfl) | apply AWp.seq | apply AWp.region | ((apply AWp.condP; exact rfl) <;> intro h) | apply AWp.block | apply AWp.exit | apply AWp.skip | ((apply w_trimow); iterate 4 exact rfl) | omega | ((apply w_lss); iterate 3 exact rfl))
  refine AWp.loopS (ι := Option ((List Int × Nat) × (List Int × Nat))) (fun s => ⟨36, [(0, pqA s p), (3, pqB s (tlen (dvN p (p.length - 1)) (dvN p (p.length - 1)).length))]⟩) (fun s => pqO s 2 (dvN p (p.length - 1))) (pqI (sqR p)) (pqM (tlen (dvN p (p.length - 1)) (dvN p (p.length - 1)).length)) none trivial ⟨lee rfl (by (repeat (first | exact le_nil | refine le_eq rfl rfl ?_))), by (repeat (first | exact lo_nil | refine lo_eq rfl ?_)), rfl, rfl⟩ ?_
  rintro (_ | ⟨⟨A, n⟩, ⟨B, m⟩⟩)
  · intro _
    simp only [pqA, pqB, pqO]
    by_cases h0 : tlen (dvN p (p.length - 1)) (dvN p (p.length - 1)).length = 0
    · repeat' (first | (apply AOps.nil; try simp only [List.nil_append, List.cons_append, List.set_cons_zero, List.set_cons_succ, List.length_cons, List.length_nil, Nat.reduceAdd, AV.sh, AV.sh1, AV.sh0, AO.sh, List.map_cons, List.map_nil, Nat.zero_add, Nat.add_zero, setAll]) | (apply w_move; exact rfl; exact rfl) | (apply w_assign; exact rfl; exact rfl) | apply AWp.seq | apply AWp.region | ((apply AWp.condP; exact rfl) <;> intro h) | apply AWp.block | apply AWp.ret | apply AWp.exit | apply AWp.skip | (apply w_len; exact rfl; exact rfl; first | exact .ints _ | exact .intss _ | exact .sli rfl | exact .sls rfl | exact .slr rfl | exact .orow rfl | exact .nil) | ((apply w_lenos); iterate 2 exact rfl) | omega | ((first | apply w_gtr | apply w_eql); iterate 3 exact rfl))
      refine .bool Try.results75 rfl ?_
      unfold sqR
      rw [euF_done (by omega)]
      simp; omega
    · obtain ⟨r1, r2, r3⟩ := remD_ok hp hti htm (by omega)
      have hrem := remainder_c p (tr (dvL p)) hp hti htm (by omega) hl2 (by omega) hp0
      rw [← htk] at hrem
      repeat' (first | (apply AOps.nil; try simp only [List.nil_append, List.cons_append, List.set_cons_zero, List.set_cons_succ, List.length_cons, List.length_nil, Nat.reduceAdd, AV.sh, AV.sh1, AV.sh0, AO.sh, List.map_cons, List.map_nil, Nat.zero_add, Nat.add_zero, setAll]) | (apply w_move; exact rfl; exact rfl) | (apply w_assign; exact rfl; exact rfl) | apply AWp.seq | apply AWp.region | ((apply AWp.condP; exact rfl) <;> intro h) | apply AWp.block | apply AWp.exit | apply AWp.skip | (apply w_len; exact rfl; exact rfl; first | exact .ints _ | exact .intss _ | exact .sli rfl | exact .sls rfl | exact .slr rfl | exact .orow rfl | exact .nil) | ((apply w_lenos); iterate 2 exact rfl) | (apply w_callm (hrem); (focus ((repeat (first | exact im_nil | refine im_cons rfl (.ints _) ?_ | refine im_cons rfl (.osub rfl (by simp; omega)) ?_)); done)); rintro r os0 ⟨xs, k, hx1, hx2, rfl, rfl⟩; try simp only [List.nil_append, List.cons_append, List.set_cons_zero, List.set_cons_succ, List.length_cons, List.length_nil, Nat.reduceAdd, AV.sh, AV.sh1, AV.sh0, AO.sh, List.map_cons, List.map_nil, Nat.zero_add, Nat.add_zero, setAll]) | omega | ((apply w_gtr); iterate 3 exact rfl))
      rw [htk] at hx2
      have hkl := take_len hx1
      rw [hx2] at hkl
      refine ⟨some ((dvN p (p.length - 1), tlen (dvN p (p.length - 1)) (dvN p (p.length - 1)).length), (xs, k)), ⟨hT, hx1, by omega, hti, htm, by omega, by rw [hx2]; exact r2, by rw [hx2]; exact r3, by omega, ?_⟩, by simp only [pqM]; omega, ?_⟩
      · rw [hx2]
        show euF k (tr (dvL p)) _ = sqR p
        unfold sqR
        obtain ⟨z, hz⟩ : ∃ z, (tr (dvL p)).length = z + 1 := ⟨(tr (dvL p)).length - 1, by omega⟩
        rw [hz, euF_step (by omega)]
        exact (euF_le hti r2 r3 k z (by omega) (by omega)).symm
      · simp only [pqA, pqB, pqO]
        (apply Or.inl; refine ⟨lee rfl ?_, ?_, rfl, rfl⟩; (focus ((repeat (first | exact le_nil | refine le_eq rfl rfl ?_)); done)); (focus ((repeat (first | exact lo_nil | refine lo_eq rfl ?_)); done)))
  · rintro ⟨a1, a2, a3, a4, a5, a6, a7, a8, a9, a10⟩
    simp only [pqA, pqB, pqO]
    have hla := take_len a1
    have hlb := take_len a2
    by_cases h0 : m = 0
    · repeat' (first | (apply AOps.nil; try simp only [List.nil_append, List.cons_append, List.set_cons_zero, List.set_cons_succ, List.length_cons, List.length_nil, Nat.reduceAdd, AV.sh, AV.sh1, AV.sh0, AO.sh, List.map_cons, List.map_nil, Nat.zero_add, Nat.add_zero, setAll]) | (apply w_move; exact rfl; exact rfl) | (apply w_assign; exact rfl; exact rfl) | apply AWp.seq | apply AWp.region | ((apply AWp.condP; exact rfl) <;> intro h) | apply AWp.block | apply AWp.ret | apply AWp.exit | apply AWp.skip | ((apply w_lenos); iterate 2 exact rfl) | omega | ((first | apply w_gtr | apply w_eql); iterate 3 exact rfl))
      refine .bool Try.results75 rfl ?_
      rw [euF_done (by omega)] at a10
      rw [← a10, hla]
      simp; omega
    · obtain ⟨r1, r2, r3⟩ := remD_ok a4 a7 a8 (by omega)
      have hrem := remainder_c (A.take n) (B.take m) a4 a7 a8 (by omega) (by omega) (by omega) (tm_pos a5 (by omega))
      repeat' (first | (apply AOps.nil; try simp only [List.nil_append, List.cons_append, List.set_cons_zero, List.set_cons_succ, List.length_cons, List.length_nil, Nat.reduceAdd, AV.sh, AV.sh1, AV.sh0, AO.sh, List.map_cons, List.map_nil, Nat.zero_add, Nat.add_zero, setAll]) | (apply w_move; exact rfl; exact rfl) | (apply w_assign; exact rfl; exact rfl) | apply AWp.seq | apply AWp.region | ((apply AWp.condP; exact rfl) <;> intro h) | apply AWp.block | apply AWp.exit | apply AWp.skip | ((apply w_lenos); iterate 2 exact rfl) | (apply w_callm (hrem); (focus ((repeat (first | exact im_nil | refine im_cons rfl (.osub rfl (by simp; omega)) ?_)); done)); rintro r os0 ⟨xs, k, hx1, hx2, rfl, rfl⟩; try simp only [List.nil_append, List.cons_append, List.set_cons_zero, List.set_cons_succ, List.length_cons, List.length_nil, Nat.reduceAdd, AV.sh, AV.sh1, AV.sh0, AO.sh, List.map_cons, List.map_nil, Nat.zero_add, Nat.add_zero, setAll]) | omega | ((apply w_gtr); iterate 3 exact rfl))
      have hkl := take_len hx1
      rw [hx2] at hkl
      refine ⟨some ((B, m), (xs, k)), ⟨a2, hx1, by omega, a7, a8, by omega, by rw [hx2]; exact r2, by rw [hx2]; exact r3, by omega, ?_⟩, by simp only [pqM]; omega, ?_⟩
      · rw [hx2, ← a10]
        obtain ⟨z, rfl⟩ : ∃ z, m = z + 1 := ⟨m - 1, by omega⟩
        rw [euF_step (by omega)]
        exact (euF_le a7 r2 r3 k z (by omega) (by omega)).symm
      · simp only [pqA, pqB, pqO]
        (apply Or.inr; refine ⟨[1, 2], ⟨by decide, fun x hx => Nat.lt_of_lt_of_le ((by decide : ∀ x ∈ ([1, 2] : List Nat), x < 3) x hx) (Nat.le_of_ble_eq_true rfl)⟩, lee rfl ?_, ?_, rfl, rfl⟩; (focus ((repeat (first | exact le_nil | refine le_eq rfl rfl ?_)); done)); (focus ((repeat (first | exact lo_nil | refine lo_eq rfl ?_)); done)))
end Go.Proofs.Ytifkgmbghcmdeaa
/-
  Contracts of the laws' own helpers over lists of lists. No condition but a bound on the sizes.
-/
namespace Go.Proofs.Ytifkgmbghcmdeaa
open Go Go.RowKit
attribute [local irreducible] AWp AOps ResIs Ret1 QOp LOp COp AFnV AFn Imms LeE LeO
set_option maxHeartbeats 1000000
set_option linter.unusedSimpArgs false
set_option linter.unusedVariables false

def szR : List (List Int) → Int → Int
  | [], l => l
  | xs :: r, l => if szI xs l < 0 then -1 else szR r (szI xs l)
def szSS (xss : List (List Int)) (left : Int) : Int := if left - xss.length < 0 then -1 else szR xss (left - xss.length)

theorem szR_ok : ∀ (xss : List (List Int)) (l : Int), 0 ≤ szR xss l → 0 ≤ l → szR xss l ≤ l ∧ ∀ xs ∈ xss, (xs.length : Int) ≤ l
  | [], l, _, _ => ⟨Int.le_refl _, by simp⟩
  | xs :: r, l, h, h0 => by
    simp only [szR] at h ⊢
    by_cases e : szI xs l < 0
    · rw [if_pos e] at h; omega
    · rw [if_neg e] at h ⊢
      have ih := szR_ok r (szI xs l) h (by omega)
      have hx : szI xs l = l - xs.length := by unfold szI at e ⊢; split <;> simp_all
      refine ⟨by omega, fun ys hy => ?_⟩
      rcases List.mem_cons.1 hy with rfl | hy
      · omega
      · have := ih.2 ys hy; omega
theorem szSS_ok {xss : List (List Int)} {left : Int} (h : 0 ≤ szSS xss left) (h0 : 0 ≤ left) : (xss.length : Int) ≤ left ∧ ∀ xs ∈ xss, (xs.length : Int) ≤ left := by
  unfold szSS at h
  split at h
  · omega
  · have := szR_ok xss _ h (by omega)
    exact ⟨by omega, fun xs hx => by have := this.2 xs hx; omega⟩

theorem drop_gets {xss : List (List Int)} {i : Nat} (h : i < xss.length) : xss.drop i = gets xss i :: xss.drop (i + 1) := by
  rw [List.drop_eq_getElem_cons h]; simp [gets, h]

theorem szInt64SS_c (xss : List (List Int)) (left : Int) (h0 : -1 ≤ left) (h1 : left ≤ 1048576) : AFnV Try.prog 56 [.intss xss, .i left] (.int .i64 (szSS xss left)) := by
  (refine AFnV.start Try.func56 Try.ntmps56 rfl (by kernel_rfl) fun hk0 => ?_; simp only [Env.start, enumF, List.length_cons, List.length_nil, Nat.reduceAdd, Nat.reduceSub, List.cons_append, List.nil_append])
  obtain ⟨hk, hl⟩ : ArgOk (.intss xss) := hk0 _ (by simp)
  repeat' (first | (apply AOps.nil; try simp only [List.nil_append, List.cons_append, List.set_cons_zero, List.set_cons_succ, List.length_cons, List.length_nil, Nat.reduceAdd, AV.sh, AV.sh1, AV.sh0, AO.sh, List.map_cons, List.map_nil, Nat.zero_add, Nat.add_zero, setAll]) | (apply w_move; exact rfl; exact rfl) | (apply w_assign; exact rfl; exact rfl) | apply AWp.seq | apply AWp.region | ((apply AWp.condP; exact rfl) <;> intro h) | apply AWp.block | apply AWp.ret | apply AWp.skip | (apply w_len; exact rfl; exact rfl; first | exact .ints _ | exact .intss _ | exact .sli rfl | exact .sls rfl | exact .slr rfl | exact .orow rfl | exact .nil) | ((first | apply w_lss | apply w_sub); iterate 3 exact rfl) | (apply inI_of <;> omega))
  · exact .int Try.results56 rfl (by simp [szSS, h])
  refine AWp.loop (ι := Nat × Int) (fun s => ⟨27, [(0, .intss xss), (1, .i s.2), (5, .i s.1)]⟩) (fun _ => []) (fun s => s.1 ≤ xss.length ∧ 0 ≤ s.2 ∧ s.2 ≤ 1048576 ∧ szR (xss.drop s.1) s.2 = szSS xss left) (fun s => xss.length - s.1) (0, left - xss.length) ⟨by simp, by simp only; omega, by simp only; omega, by simp [szSS, h]⟩ ⟨lee rfl (by (repeat (first | exact le_nil | refine le_eq rfl rfl ?_))), by (repeat (exact lo_nil)), rfl, rfl⟩ ?_
  rintro ⟨i, l⟩ ⟨a0, a1, a2, a3⟩
  simp only at a0 a1 a2 a3
  repeat' (first | (apply AOps.nil; try simp only [List.nil_append, List.cons_append, List.set_cons_zero, List.set_cons_succ, List.length_cons, List.length_nil, Nat.reduceAdd, AV.sh, AV.sh1, AV.sh0, AO.sh, List.map_cons, List.map_nil, Nat.zero_add, Nat.add_zero, setAll]) | (apply w_move; exact rfl; exact rfl) | (apply w_assign; exact rfl; exact rfl) | apply AWp.seq | apply AWp.region | ((apply AWp.condP; exact rfl) <;> intro h) | apply AWp.block | apply AWp.ret | apply AWp.exit | apply AWp.skip | (apply w_len; exact rfl; exact rfl; first | exact .ints _ | exact .intss _ | exact .sli rfl | exact .sls rfl | exact .slr rfl | exact .orow rfl | exact .nil) | (apply w_call (szInt64S_c _ _ (show -1 ≤ l by omega) a2); exact rfl; exact rfl; focus ((repeat (first | exact im_nil | refine im_cons rfl (.val _) ?_ | refine im_cons rfl (.ints _) ?_)); done)) | ((first | apply w_lss | apply w_add | apply w_idx | apply w_ld); iterate 3 exact rfl) | ((first | apply w_idxs | apply w_lds); iterate 3 exact rfl) | (apply inI_of <;> omega) | omega)
  · rw [drop_gets (by omega)] at a3
    exact .int Try.results56 rfl (by rw [← a3]; simp [szR, h])
  · rw [drop_gets (by omega)] at a3
    have e1 : szI (gets xss i) l = l - (gets xss i).length := by unfold szI at h ⊢; split <;> simp_all
    exact ⟨(i + 1, szI (gets xss i) l), ⟨by simp only; omega, by simp only; omega, by simp only; omega, by simp only; rw [← a3]; simp [szR, h]⟩, by simp only; omega, ⟨lee rfl (by (repeat (first | exact le_nil | refine le_eq rfl rfl ?_))), by (repeat (exact lo_nil)), rfl, rfl⟩⟩
  · have e : i = xss.length := by omega
    subst e
    exact .int Try.results56 rfl (by rw [← a3]; simp [szR])

theorem take_set_snocs (xs : List (List Int)) (i : Nat) (h : i < xs.length) : (xs.take i ++ List.replicate (xs.length - i) []).set i (gets xs i) = xs.take (i + 1) ++ List.replicate (xs.length - (i + 1)) [] := by
  rw [List.set_append_right _ _ (by simp; omega), List.length_take, Nat.min_eq_left (by omega), Nat.sub_self, show xs.length - i = (xs.length - (i + 1)) + 1 by omega, List.replicate_succ, List.set_cons_zero, List.take_succ_eq_append_getElem h, show gets xs i = xs[i] by simp [gets, h]]
  simp only [List.append_assoc, List.cons_append, List.nil_append]

/-- The new slice of rows that a function hands back alone. -/
def IsIntss (e e2 : TypeId) (xss : List (List Int)) (r : AV) (os : List AO) : Prop := r = .own 0 ∧ os = [.sls e e2 xss]

theorem toInt64SS_c (xss : List (List Int)) (hb : xss.length ≤ 1048576) (hr : ∀ xs ∈ xss, xs.length ≤ 1048576) : AFn Try.prog 58 [.intss xss] (IsIntss 22 2 xss) := by
  (refine AFn.start Try.func58 Try.ntmps58 rfl (by kernel_rfl) fun hk => ?_; simp only [Env.start, enumF, List.length_cons, List.length_nil, Nat.reduceAdd, Nat.reduceSub, List.cons_append, List.nil_append])
  repeat' (first | (apply AOps.nil; try simp only [List.nil_append, List.cons_append, List.set_cons_zero, List.set_cons_succ, List.length_cons, List.length_nil, Nat.reduceAdd, AV.sh, AV.sh1, AV.sh0, AO.sh, List.map_cons, List.map_nil, Nat.zero_add, Nat.add_zero, setAll]) | (apply w_move; exact rfl; exact rfl) | (apply w_assign; exact rfl; exact rfl) | apply AWp.seq | apply AWp.region | apply AWp.block | (apply w_len; exact rfl; exact rfl; first | exact .ints _ | exact .intss _ | exact .sli rfl | exact .sls rfl | exact .slr rfl | exact .orow rfl | exact .nil) | (apply w_mkr; exact rfl; exact rfl; rotate_left 3; exact rfl; rotate_left 1) | omega)
  refine AWp.loop (ι := Nat) (fun i => ⟨23, [(0, .intss xss), (3, .own 0), (4, .i i)]⟩) (fun i => [.sls 22 2 (xss.take i ++ List.replicate (xss.length - i) [])]) (fun i => i ≤ xss.length) (fun i => xss.length - i) 0 (by omega) ⟨lee rfl (by (repeat (first | exact le_nil | refine le_eq rfl rfl ?_))), lo_eq (by simp) lo_nil, rfl, rfl⟩ ?_
  rintro i h0
  have e1 : (xss.take i ++ List.replicate (xss.length - i) []).length = xss.length := by simp; omega
  have hb2 : (gets xss i).length ≤ 1048576 := by
    by_cases hi : i < xss.length
    · exact hr _ (gets_mem (by omega) (by omega))
    · simp [gets, List.getElem?_eq_none (show xss.length ≤ i by omega)]
  repeat' (first | (apply AOps.nil; try simp only [List.nil_append, List.cons_append, List.set_cons_zero, List.set_cons_succ, List.length_cons, List.length_nil, Nat.reduceAdd, AV.sh, AV.sh1, AV.sh0, AO.sh, List.map_cons, List.map_nil, Nat.zero_add, Nat.add_zero, setAll]) | (apply w_move; exact rfl; exact rfl) | (apply w_assign; exact rfl; exact rfl) | apply AWp.seq | apply AWp.region | ((apply AWp.condP; exact rfl) <;> intro h) | apply AWp.block | apply AWp.ret | apply AWp.exit | apply AWp.skip | (apply w_len; exact rfl; exact rfl; first | exact .ints _ | exact .intss _ | exact .sli rfl | exact .sls rfl | exact .slr rfl | exact .orow rfl | exact .nil) | (apply w_callm (toInt64S_c _ hb2); (focus ((repeat (first | exact im_nil | refine im_cons rfl (.ints _) ?_)); done)); rintro r os0 ⟨rfl, rfl⟩; try simp only [List.nil_append, List.cons_append, List.set_cons_zero, List.set_cons_succ, List.length_cons, List.length_nil, Nat.reduceAdd, AV.sh, AV.sh1, AV.sh0, AO.sh, List.map_cons, List.map_nil, Nat.zero_add, Nat.add_zero, setAll]) | ((first | apply w_lss | apply w_add | apply w_idx | apply w_ld); iterate 3 exact rfl) | ((first | apply w_idxs | apply w_lds); iterate 3 exact rfl) | (apply w_idxo; exact rfl; exact rfl; (exact .sls rfl); exact rfl) | (apply w_strow; exact rfl; exact rfl; rotate_left 1; exact rfl; exact rfl; exact rfl; exact rfl; simp only [Env.mp, List.map_cons, List.map_nil, List.set_cons_zero, List.set_cons_succ, AV.kill, AV.kill1, AO.kill, AV.noRow, AV.noRow1, AO.via, reduceIte, Nat.reduceEqDiff, Nat.reduceLT, Env.up, Nat.zero_ne_one, Nat.one_ne_zero, Nat.reduceAdd, List.cons_append, List.nil_append]; rotate_left 1) | (apply inI_of <;> omega) | omega)
  · have e2 := take_set_snocs xss i (by omega)
    have e3 : (xss.take i ++ List.replicate (xss.length - i) []).set ((i : Int)).toNat (gets xss i) = xss.take (i + 1) ++ List.replicate (xss.length - (i + 1)) [] := e2
    exact ⟨i + 1, by omega, by omega, ⟨lee rfl (by (repeat (first | exact le_nil | refine le_eq rfl rfl ?_))), by (repeat (first | exact lo_nil | refine lo_eq (congrArg (AO.sls _ _) (e3)) ?_)), rfl, rfl⟩⟩
  · have e : i = xss.length := by omega
    subst e
    exact ⟨_, _, _, .v1 Try.results58 rfl, .sls rfl, rfl, by simp⟩

theorem eqInt64SS_c (xss yss : List (List Int)) : AFnV Try.prog 61 [.intss xss, .intss yss] (.bool (decide (xss = yss))) := by
  (refine AFnV.start Try.func61 Try.ntmps61 rfl (by kernel_rfl) fun hk0 => ?_; simp only [Env.start, enumF, List.length_cons, List.length_nil, Nat.reduceAdd, Nat.reduceSub, List.cons_append, List.nil_append])
  obtain ⟨hk, hl⟩ : ArgOk (.intss xss) := hk0 _ (by simp)
  repeat' (first | (apply AOps.nil; try simp only [List.nil_append, List.cons_append, List.set_cons_zero, List.set_cons_succ, List.length_cons, List.length_nil, Nat.reduceAdd, AV.sh, AV.sh1, AV.sh0, AO.sh, List.map_cons, List.map_nil, Nat.zero_add, Nat.add_zero, setAll]) | (apply w_move; exact rfl; exact rfl) | (apply w_assign; exact rfl; exact rfl) | apply AWp.seq | apply AWp.region | ((apply AWp.condP; exact rfl) <;> intro h) | apply AWp.block | apply AWp.ret | apply AWp.skip | (apply w_len; exact rfl; exact rfl; first | exact .ints _ | exact .intss _ | exact .sli rfl | exact .sls rfl | exact .slr rfl | exact .orow rfl | exact .nil) | ((apply w_neq); iterate 3 exact rfl))
  · exact .bool Try.results61 rfl (by simp; intro e; subst e; simp at h)
  refine AWp.loop (ι := Nat) (fun i => ⟨27, [(0, .intss xss), (1, .intss yss), (5, .i i)]⟩) (fun _ => []) (fun i => i ≤ xss.length ∧ xss.take i = yss.take i) (fun i => xss.length - i) 0 ⟨by omega, by simp⟩ ⟨lee rfl (by (repeat (first | exact le_nil | refine le_eq rfl rfl ?_))), by (repeat (exact lo_nil)), rfl, rfl⟩ ?_
  rintro i ⟨h0, h1⟩
  have hlen : xss.length = yss.length := by omega
  repeat' (first | (apply AOps.nil; try simp only [List.nil_append, List.cons_append, List.set_cons_zero, List.set_cons_succ, List.length_cons, List.length_nil, Nat.reduceAdd, AV.sh, AV.sh1, AV.sh0, AO.sh, List.map_cons, List.map_nil, Nat.zero_add, Nat.add_zero, setAll]) | (apply w_move; exact rfl; exact rfl) | (apply w_assign; exact rfl; exact rfl) | apply AWp.seq | apply AWp.region | ((apply AWp.condP; exact rfl) <;> intro h) | ((apply AWp.condN; exact rfl) <;> intro h) | apply AWp.block | apply AWp.ret | apply AWp.exit | apply AWp.skip | (apply AWp.regionQ; kernel_rfl; kernel_rfl) | (apply w_len; exact rfl; exact rfl; first | exact .ints _ | exact .intss _ | exact .sli rfl | exact .sls rfl | exact .slr rfl | exact .orow rfl | exact .nil) | (apply w_call (eqInt64S_c _ _); exact rfl; exact rfl; focus ((repeat (first | exact im_nil | refine im_cons rfl (.ints _) ?_)); done)) | ((first | apply w_lss | apply w_add | apply w_idx | apply w_ld); iterate 3 exact rfl) | ((first | apply w_idxs | apply w_lds); iterate 3 exact rfl) | ((apply w_not); iterate 2 exact rfl) | (apply inI_of <;> omega) | omega)
  · refine .bool Try.results61 rfl ?_
    have : ¬ xss = yss := fun e => h (by rw [e])
    simp [this]
  · refine ⟨i + 1, ⟨by omega, ?_⟩, by omega, ⟨lee rfl (by (repeat (first | exact le_nil | refine le_eq rfl rfl ?_))), by (repeat (exact lo_nil)), rfl, rfl⟩⟩
    have a1 : i < xss.length := by omega
    have a2 : i < yss.length := by omega
    have a3 : xss[i] = yss[i] := by simpa [gets, a1, a2] using h
    rw [List.take_succ_eq_append_getElem a1, List.take_succ_eq_append_getElem a2, h1, a3]
  · have e : i = xss.length := by omega
    subst e
    rw [List.take_length, hlen, List.take_length] at h1
    exact .bool Try.results61 rfl (by simp [h1])

end Go.Proofs.Ytifkgmbghcmdeaa
/-
  A term put into terms in order: the reference's. No condition but a bound on the sizes.
-/
namespace Go.Proofs.Ytifkgmbghcmdeaa
open Go Go.RowKit
attribute [local irreducible] AWp AOps ResIs Ret1 QOp LOp COp AFnV AFn Imms LeE LeO
set_option maxHeartbeats 1000000
set_option linter.unusedSimpArgs false
set_option linter.unusedVariables false


/-- A term: two exponents of moderate size and a number of the field. -/
def TOk (t : List Int) : Prop := t.length = 3 ∧ (0 ≤ geti t 0 ∧ geti t 0 ≤ 100000) ∧ (0 ≤ geti t 1 ∧ geti t 1 ≤ 100000) ∧ (0 ≤ geti t 2 ∧ geti t 2 ≤ 55440)
/-- The term comes ahead of (i, j). -/
def bef (i j : Int) (t : List Int) : Prop := geti t 0 + geti t 1 < i + j ∨ (geti t 0 + geti t 1 = i + j ∧ geti t 0 < i)
instance (i j : Int) (t : List Int) : Decidable (bef i j t) := by unfold bef; infer_instance
end Go.Proofs.Ytifkgmbghcmdeaa
/-
  Supports: whether a list is one, and its values. No condition.
-/
namespace Go.Proofs.Ytifkgmbghcmdeaa
open Go Go.RowKit
attribute [local irreducible] AWp AOps ResIs Ret1 QOp LOp COp AFnV AFn Imms LeE LeO
set_option maxHeartbeats 1000000
set_option linter.unusedSimpArgs false
set_option linter.unusedVariables false

/-- The i-th row of a support. -/
def SR (xss : List (List Int)) (i : Nat) : Prop :=
  (gets xss i).length = 2 ∧ (0 ≤ geti (gets xss i) 0 ∧ geti (gets xss i) 0 ≤ 60) ∧ (0 ≤ geti (gets xss i) 1 ∧ geti (gets xss i) 1 ≤ 60)
def IsSup (xss : List (List Int)) : Prop := (1 ≤ xss.length ∧ xss.length ≤ 200) ∧ ∀ j, j < xss.length → SR xss j
noncomputable instance (xss : List (List Int)) : Decidable (IsSup xss) := Classical.propDecidable _
theorem within2 {xs : List Int} {a b : Int} (hl : xs.length = 2) : withinL xs a b = decide ((a ≤ geti xs 0 ∧ geti xs 0 ≤ b) ∧ (a ≤ geti xs 1 ∧ geti xs 1 ≤ b)) := by
  match xs, hl with
  | [x, y], _ => simp [withinL, geti]

/-! ### Values -/
end Go.Proofs.Ytifkgmbghcmdeaa
/-
  Polynomials: the laws' helpers, whether a value is one, and its order. No condition.
-/
namespace Go.Proofs.Ytifkgmbghcmdeaa
open Go Go.RowKit
attribute [local irreducible] AWp AOps ResIs Ret1 QOp LOp COp AFnV AFn Imms LeE LeO
set_option maxHeartbeats 1000000
set_option linter.unusedSimpArgs false
set_option linter.unusedVariables false

theorem szR_cases : ∀ (xss : List (List Int)) (l : Int), 0 ≤ l → szR xss l = -1 ∨ 0 ≤ szR xss l
  | [], l, h => .inr h
  | xs :: r, l, h => by
    simp only [szR]
    by_cases e : szI xs l < 0
    · rw [if_pos e]; exact .inl rfl
    · rw [if_neg e]; exact szR_cases r _ (by omega)
theorem szSS_cases (xss : List (List Int)) (left : Int) : szSS xss left = -1 ∨ 0 ≤ szSS xss left := by
  unfold szSS
  split
  · exact .inl rfl
  · exact szR_cases _ _ (by omega)

theorem szPoly_c (xss : List (List Int)) (left : Int) (h0 : -1 ≤ left) (h1 : left ≤ 1048576) : AFnV Try.prog 26 [.agg [.intss xss], .i left] (.int .i64 (szSS xss left)) := by
  (refine AFnV.start Try.func26 Try.ntmps26 rfl (by kernel_rfl) fun hk => ?_; simp only [Env.start, enumF, List.length_cons, List.length_nil, Nat.reduceAdd, Nat.reduceSub, List.cons_append, List.nil_append])
  repeat' (first | (apply AOps.nil; try simp only [List.nil_append, List.cons_append, List.set_cons_zero, List.set_cons_succ, List.length_cons, List.length_nil, Nat.reduceAdd, AV.sh, AV.sh1, AV.sh0, AO.sh, List.map_cons, List.map_nil, Nat.zero_add, Nat.add_zero, setAll]) | (apply w_move; exact rfl; exact rfl) | (apply w_assign; exact rfl; exact rfl) | apply AWp.seq | apply AWp.region | ((apply AWp.condP; exact rfl) <;> intro h) | apply AWp.ret | apply AWp.skip | (apply w_call (szInt64SS_c _ _ h0 h1); exact rfl; exact rfl; focus ((repeat (first | exact im_nil | refine im_cons rfl (.val _) ?_ | refine im_cons rfl (.intss _) ?_)); done)) | ((first | apply w_lss | apply w_ld | apply w_fa); iterate 3 exact rfl) | ((apply w_boxa); iterate 2 exact rfl) | (apply w_ldb; iterate 5 exact rfl))
  · refine .int Try.results26 rfl ?_
    have e : szSS xss left = -1 ∨ 0 ≤ szSS xss left := szSS_cases xss left
    omega
  · exact .int Try.results26 rfl rfl

/-- A new polynomial. -/
def IsPol (xss : List (List Int)) (r : AV) (os : List AO) : Prop := r = .agg [.own 0] ∧ os = [.sls 22 2 xss]

theorem toPoly_c (xss : List (List Int)) (hb : xss.length ≤ 1048576) (hr : ∀ xs ∈ xss, xs.length ≤ 1048576) : AFn Try.prog 28 [.agg [.intss xss]] (IsPol xss) := by
  (refine AFn.start Try.func28 Try.ntmps28 rfl (by kernel_rfl) fun hk => ?_; simp only [Env.start, enumF, List.length_cons, List.length_nil, Nat.reduceAdd, Nat.reduceSub, List.cons_append, List.nil_append])
  repeat' (first | (apply AOps.nil; try simp only [List.nil_append, List.cons_append, List.set_cons_zero, List.set_cons_succ, List.length_cons, List.length_nil, Nat.reduceAdd, AV.sh, AV.sh1, AV.sh0, AO.sh, List.map_cons, List.map_nil, Nat.zero_add, Nat.add_zero, setAll]) | apply AWp.seq | apply AWp.region | apply AWp.ret | (apply w_callm (toInt64SS_c _ hb hr); (focus ((repeat (first | exact im_nil | refine im_cons rfl (.intss _) ?_)); done)); rintro r os0 ⟨rfl, rfl⟩; try simp only [List.nil_append, List.cons_append, List.set_cons_zero, List.set_cons_succ, List.length_cons, List.length_nil, Nat.reduceAdd, AV.sh, AV.sh1, AV.sh0, AO.sh, List.map_cons, List.map_nil, Nat.zero_add, Nat.add_zero, setAll]) | ((first | apply w_ld | apply w_fa); iterate 3 exact rfl) | ((apply w_boxa); iterate 2 exact rfl) | (apply w_ldb; iterate 5 exact rfl) | (apply w_ldst; iterate 5 exact rfl) | (apply w_alst; iterate 2 exact rfl) | (apply w_stst; iterate 5 exact rfl) | (apply w_stbo; exact rfl; exact rfl; exact rfl; exact rfl; exact rfl; exact True.intro))
  exact ⟨_, _, _, .c1 Try.results28 rfl rfl rfl, .agg1 (.sls rfl), rfl, rfl⟩

theorem eqPoly_c (xss yss : List (List Int)) : AFnV Try.prog 30 [.agg [.intss xss], .agg [.intss yss]] (.bool (decide (xss = yss))) := by
  (refine AFnV.start Try.func30 Try.ntmps30 rfl (by kernel_rfl) fun hk => ?_; simp only [Env.start, enumF, List.length_cons, List.length_nil, Nat.reduceAdd, Nat.reduceSub, List.cons_append, List.nil_append])
  repeat' (first | (apply AOps.nil; try simp only [List.nil_append, List.cons_append, List.set_cons_zero, List.set_cons_succ, List.length_cons, List.length_nil, Nat.reduceAdd, AV.sh, AV.sh1, AV.sh0, AO.sh, List.map_cons, List.map_nil, Nat.zero_add, Nat.add_zero, setAll]) | (apply w_assign; exact rfl; exact rfl) | apply AWp.seq | apply AWp.region | ((apply AWp.condN; exact rfl) <;> intro h) | apply AWp.ret | apply AWp.skip | (apply w_call (eqInt64SS_c _ _); exact rfl; exact rfl; focus ((repeat (first | exact im_nil | refine im_cons rfl (.intss _) ?_)); done)) | ((first | apply w_ld | apply w_fa); iterate 3 exact rfl) | ((first | apply w_not | apply w_boxa); iterate 2 exact rfl) | (apply w_ldb; iterate 5 exact rfl))
  · exact .bool Try.results30 rfl (by simp_all)
  · exact .bool Try.results30 rfl (by simp_all)
theorem eqPoly_t (xss : List (List Int)) : AFnV Try.prog 30 [.agg [.intss xss], .agg [.intss xss]] (.bool true) := by
  have := eqPoly_c xss xss
  simpa using this

/-- The order of terms. -/
def Bef (x y : List Int) : Prop := geti x 0 + geti x 1 < geti y 0 + geti y 1 ∨ (geti x 0 + geti x 1 = geti y 0 + geti y 1 ∧ geti x 0 < geti y 0)

theorem l17Before_c (i j a b : Int) (hi : 0 ≤ i ∧ i ≤ 60) (hj : 0 ≤ j ∧ j ≤ 60) (ha : 0 ≤ a ∧ a ≤ 60) (hb : 0 ≤ b ∧ b ≤ 60) :
    AFnV Try.prog 85 [.i i, .i j, .i a, .i b] (.bool (decide (i + j < a + b ∨ (i + j = a + b ∧ i < a)))) := by
  (refine AFnV.start Try.func85 Try.ntmps85 rfl (by kernel_rfl) fun hk => ?_; simp only [Env.start, enumF, List.length_cons, List.length_nil, Nat.reduceAdd, Nat.reduceSub, List.cons_append, List.nil_append])
  repeat' (first | (apply AOps.nil; try simp only [List.nil_append, List.cons_append, List.set_cons_zero, List.set_cons_succ, List.length_cons, List.length_nil, Nat.reduceAdd, AV.sh, AV.sh1, AV.sh0, AO.sh, List.map_cons, List.map_nil, Nat.zero_add, Nat.add_zero, setAll]) | (apply w_move; exact rfl; exact rfl) | (apply w_assign; exact rfl; exact rfl) | apply AWp.seq | apply AWp.region | ((apply AWp.condP; exact rfl) <;> intro h) | apply AWp.ret | apply AWp.skip | ((first | apply w_lss | apply w_neq | apply w_add); iterate 3 exact rfl) | (apply inI_of <;> omega))
  all_goals refine .bool Try.results85 rfl ?_
  all_goals rw [Bool.eq_iff_iff]
  all_goals simp
  all_goals omega

def cmpI (a b : Int) : Int := if a < b then -1 else if b < a then 1 else 0

theorem compared_c (a b : Int) : AFnV Try.prog 110 [.i a, .i b] (.int .i64 (cmpI a b)) := by
  (refine AFnV.start Try.func110 Try.ntmps110 rfl (by kernel_rfl) fun hk => ?_; simp only [Env.start, enumF, List.length_cons, List.length_nil, Nat.reduceAdd, Nat.reduceSub, List.cons_append, List.nil_append])
  repeat' (first | (apply AOps.nil; try simp only [List.nil_append, List.cons_append, List.set_cons_zero, List.set_cons_succ, List.length_cons, List.length_nil, Nat.reduceAdd, AV.sh, AV.sh1, AV.sh0, AO.sh, List.map_cons, List.map_nil, Nat.zero_add, Nat.add_zero, setAll]) | (apply w_move; exact rfl; exact rfl) | (apply w_assign; exact rfl; exact rfl) | apply AWp.seq | apply AWp.region | ((apply AWp.condP; exact rfl) <;> intro h) | apply AWp.block | apply AWp.ret | apply AWp.skip | ((first | apply w_lss | apply w_gtr); iterate 3 exact rfl))
  all_goals exact .int Try.results110 rfl (by unfold cmpI; split <;> (try split) <;> omega)

def cmpT (x y : List Int) : Int := if cmpI (geti x 0 + geti x 1) (geti y 0 + geti y 1) ≠ 0 then cmpI (geti x 0 + geti x 1) (geti y 0 + geti y 1) else cmpI (geti x 0) (geti y 0)
theorem cmpI_in (a b : Int) : -1 ≤ cmpI a b ∧ cmpI a b ≤ 1 := by unfold cmpI; split <;> (try split) <;> omega
theorem cmpT_bef (x y : List Int) : 0 ≤ cmpT x y ↔ ¬ Bef x y := by
  unfold cmpT Bef cmpI
  (repeat' split) <;> omega

theorem compareTerms_c (x y : List Int) (hx : x.length = 3) (hy : y.length = 3) (hx0 : 0 ≤ geti x 0 ∧ geti x 0 ≤ 60) (hx1 : 0 ≤ geti x 1 ∧ geti x 1 ≤ 60) (hy0 : 0 ≤ geti y 0 ∧ geti y 0 ≤ 60) (hy1 : 0 ≤ geti y 1 ∧ geti y 1 ≤ 60) :
    AFnV Try.prog 89 [.ints x, .ints y] (.int .i64 (cmpT x y)) := by
  have e1 := cmpI_in (geti x 0 + geti x 1) (geti y 0 + geti y 1)
  have e2 := cmpI_in (geti x 0) (geti y 0)
  (refine AFnV.start Try.func89 Try.ntmps89 rfl (by kernel_rfl) fun hk => ?_; simp only [Env.start, enumF, List.length_cons, List.length_nil, Nat.reduceAdd, Nat.reduceSub, List.cons_append, List.nil_append])
  repeat' (first | (apply AOps.nil; try simp only [List.nil_append, List.cons_append, List.set_cons_zero, List.set_cons_succ, List.length_cons, List.length_nil, Nat.reduceAdd, AV.sh, AV.sh1, AV.sh0, AO.sh, List.map_cons, List.map_nil, Nat.zero_add, Nat.add_zero, setAll]) | (apply w_move; exact rfl; exact rfl) | (apply w_assign; exact rfl; exact rfl) | apply AWp.seq | apply AWp.region | ((apply AWp.condP; exact rfl) <;> intro h) | apply AWp.ret | apply AWp.skip | (apply AWp.regionQ; kernel_rfl; kernel_rfl) | (apply w_call (compared_c _ _); exact rfl; exact rfl; focus ((repeat (first | exact im_nil | refine im_cons rfl (.val _) ?_)); done)) | ((first | apply w_neq | apply w_add | apply w_idx | apply w_ld); iterate 3 exact rfl) | (apply inI_of <;> omega) | omega)
  all_goals exact .int Try.results89 rfl (by unfold cmpT; split <;> (try omega) <;> (try rfl) <;> simp_all)

/-- The i-th term of a polynomial. -/
def PR (xss : List (List Int)) (i : Nat) : Prop :=
  (gets xss i).length = 3 ∧ (0 ≤ geti (gets xss i) 0 ∧ geti (gets xss i) 0 ≤ 60) ∧ (0 ≤ geti (gets xss i) 1 ∧ geti (gets xss i) 1 ≤ 60) ∧ (1 ≤ geti (gets xss i) 2 ∧ geti (gets xss i) 2 ≤ 55440) ∧
    (0 < i → Bef (gets xss ((i : Int) - 1)) (gets xss i))
def IsPo (xss : List (List Int)) : Prop := xss.length ≤ 200 ∧ ∀ j, j < xss.length → PR xss j
noncomputable instance (xss : List (List Int)) : Decidable (IsPo xss) := Classical.propDecidable _
noncomputable def isPo (xss : List (List Int)) : Bool := decide (IsPo xss)

theorem isPo_false {xss : List (List Int)} {i : Nat} (hi : i < xss.length) (h : ¬ PR xss i) : false = isPo xss := (decide_eq_false fun hz => h (hz.2 i hi)).symm
theorem isPo_long {xss : List (List Int)} (h : ¬ xss.length ≤ 200) : false = isPo xss := (decide_eq_false fun hz => h hz.1).symm
theorem isPo_all {xss : List (List Int)} (h : ∀ j, j < xss.length → PR xss j) : isPo xss = decide (xss.length ≤ 200) := by
  unfold isPo
  by_cases h2 : xss.length ≤ 200
  · rw [decide_eq_true ⟨h2, h⟩, decide_eq_true h2]
  · rw [decide_eq_false (fun hz => h2 hz.1), decide_eq_false h2]
theorem isPo_of {xss : List (List Int)} (h : isPo xss = true) : xss.length ≤ 200 ∧ ∀ j, j < xss.length → PR xss j := of_decide_eq_true (p := IsPo xss) h

theorem within3_c (xs : List Int) (hl : xs.length = 3) : AFnV Try.prog 80 [.ints (xs.take (Int.toNat 2)), .i 0, .i 60] (.bool (decide ((0 ≤ geti xs 0 ∧ geti xs 0 ≤ 60) ∧ (0 ≤ geti xs 1 ∧ geti xs 1 ≤ 60)))) := by
  have := within_c (xs.take (Int.toNat 2)) 0 60
  rw [within2 (by simp; omega)] at this
  have e0 : geti (xs.take (Int.toNat 2)) 0 = geti xs 0 := by match xs, hl with | [x, y, z], _ => rfl
  have e1 : geti (xs.take (Int.toNat 2)) 1 = geti xs 1 := by match xs, hl with | [x, y, z], _ => rfl
  rw [e0, e1] at this
  exact this

theorem l17Is_c (xss : List (List Int)) : AFnV Try.prog 47 [.agg [.intss xss]] (.bool (isPo xss)) := by
  (refine AFnV.start Try.func47 Try.ntmps47 rfl (by kernel_rfl) fun hk0 => ?_; simp only [Env.start, enumF, List.length_cons, List.length_nil, Nat.reduceAdd, Nat.reduceSub, List.cons_append, List.nil_append])
  have hk := hk0 _ (List.mem_cons_self ..)
  obtain ⟨hk, hl⟩ := hk (.intss xss) (by simp)
  repeat' (first | (apply AOps.nil; try simp only [List.nil_append, List.cons_append, List.set_cons_zero, List.set_cons_succ, List.length_cons, List.length_nil, Nat.reduceAdd, AV.sh, AV.sh1, AV.sh0, AO.sh, List.map_cons, List.map_nil, Nat.zero_add, Nat.add_zero, setAll]) | (apply w_assign; exact rfl; exact rfl) | apply AWp.seq | apply AWp.region | apply AWp.block | ((apply w_boxa); iterate 2 exact rfl))
  refine AWp.loop (ι := Nat) (fun i => ⟨73, [(0, .agg [.intss xss]), (1, .optr 0 0), (3, .i i)]⟩) (fun _ => [.bx 50 [.intss xss]]) (fun i => i ≤ xss.length ∧ ∀ j, j < i → PR xss j) (fun i => xss.length - i) 0 ⟨by omega, fun j hj => by omega⟩ ⟨lee rfl (by (repeat (first | exact le_nil | refine le_eq rfl rfl ?_))), by (repeat (first | exact lo_nil | refine lo_eq rfl ?_)), rfl, rfl⟩ ?_
  rintro i ⟨h0, h1⟩
  have hprev : 0 < i → (gets xss ((i : Int) - 1)).length = 3 ∧ (0 ≤ geti (gets xss ((i : Int) - 1)) 0 ∧ geti (gets xss ((i : Int) - 1)) 0 ≤ 60) ∧ (0 ≤ geti (gets xss ((i : Int) - 1)) 1 ∧ geti (gets xss ((i : Int) - 1)) 1 ≤ 60) := by
    intro h
    have := h1 (i - 1) (by omega)
    unfold PR at this
    rw [show ((i : Int) - 1) = ((i - 1 : Nat) : Int) by omega]
    exact ⟨this.1, this.2.1, this.2.2.1⟩
  by_cases hi0 : 0 < i
  · obtain ⟨p1, p2, p3⟩ := hprev hi0
    by_cases hz : (gets xss i).length = 3 ∧ (0 ≤ geti (gets xss i) 0 ∧ geti (gets xss i) 0 ≤ 60) ∧ (0 ≤ geti (gets xss i) 1 ∧ geti (gets xss i) 1 ≤ 60) ∧ (1 ≤ geti (gets xss i) 2 ∧ geti (gets xss i) 2 ≤ 55440)
    · have hz' := hz
      obtain ⟨z0, z1, z2, z3⟩ := hz'
      repeat' (first | (apply AOps.nil; try simp only [List.nil_append, List.cons_append, List.set_cons_zero, List.set_cons_succ, List.length_cons, List.length_nil, Nat.reduceAdd, AV.sh, AV.sh1, AV.sh0, AO.sh, List.map_cons, List.map_nil, Nat.zero_add, Nat.add_zero, setAll]) | ((apply AOps.splitP; exact rfl; exact rfl) <;> intro h) | ((apply AOps.splitN; exact rfl; exact rfl) <;> intro h) | (apply w_move; exact rfl; exact rfl) | (apply w_assign; exact rfl; exact rfl) | apply AWp.seq | apply AWp.region | ((apply AWp.condP; exact rfl) <;> intro h) | ((apply AWp.condN; exact rfl) <;> intro h) | (apply AWp.condT; exact rfl) | (apply AWp.condF; exact rfl) | apply AWp.block | apply AWp.ret | apply AWp.exit | apply AWp.skip | (apply AWp.regionQ; kernel_rfl; kernel_rfl) | (apply w_skip; exact rfl) | (apply w_pickT; exact rfl; exact rfl; exact rfl) | (apply w_pickF; exact rfl; exact rfl; exact rfl) | (apply w_len; exact rfl; exact rfl; first | exact .ints _ | exact .intss _ | exact .sli rfl | exact .sls rfl | exact .slr rfl | exact .orow rfl | exact .nil) | (apply w_call (l01In_c _ _ _); exact rfl; exact rfl; focus ((repeat (first | exact im_nil | refine im_cons rfl (.val _) ?_)); done)) | (apply w_call (l17Before_c _ _ _ _ p2 p3 z1 z2); exact rfl; exact rfl; focus ((repeat (first | exact im_nil | refine im_cons rfl (.val _) ?_)); done)) | ((first | apply w_lss | apply w_leq | apply w_gtr | apply w_neq | apply w_add | apply w_sub | apply w_idx | apply w_ld | apply w_fa); iterate 3 exact rfl) | ((first | apply w_idxs | apply w_lds); iterate 3 exact rfl) | ((apply w_not); iterate 2 exact rfl) | (apply w_ldb; iterate 5 exact rfl) | (apply inI_of <;> omega) | omega)
      all_goals first
        | exact .bool Try.results47 rfl (isPo_false (i := i) (by omega) (fun hz => by unfold PR Bef at hz; omega))
        | (refine ⟨i + 1, ⟨by omega, fun j hj => ?_⟩, by omega, ⟨lee rfl (by (repeat (first | exact le_nil | refine le_eq rfl rfl ?_))), by (repeat (first | exact lo_nil | refine lo_eq rfl ?_)), rfl, rfl⟩⟩
           by_cases e : j = i
           · subst e
             unfold PR Bef
             omega
           · exact h1 j (by omega))
        | (have e : i = xss.length := by omega
           subst e
           exact .bool Try.results47 rfl (by rw [isPo_all h1]; simp; try omega))
    · repeat' (first | (apply AOps.nil; try simp only [List.nil_append, List.cons_append, List.set_cons_zero, List.set_cons_succ, List.length_cons, List.length_nil, Nat.reduceAdd, AV.sh, AV.sh1, AV.sh0, AO.sh, List.map_cons, List.map_nil, Nat.zero_add, Nat.add_zero, setAll]) | ((apply AOps.splitP; exact rfl; exact rfl) <;> intro h) | ((apply AOps.splitN; exact rfl; exact rfl) <;> intro h) | (apply w_move; exact rfl; exact rfl) | (apply w_assign; exact rfl; exact rfl) | apply AWp.seq | apply AWp.region | ((apply AWp.condP; exact rfl) <;> intro h) | ((apply AWp.condN; exact rfl) <;> intro h) | (apply AWp.condT; exact rfl) | apply AWp.block | apply AWp.ret | apply AWp.exit | apply AWp.skip | (apply AWp.regionQ; kernel_rfl; kernel_rfl) | (apply w_skip; exact rfl) | (apply w_pickT; exact rfl; exact rfl; exact rfl) | (apply w_pickF; exact rfl; exact rfl; exact rfl) | (apply w_len; exact rfl; exact rfl; first | exact .ints _ | exact .intss _ | exact .sli rfl | exact .sls rfl | exact .slr rfl | exact .orow rfl | exact .nil) | (apply w_call (l01In_c _ _ _); exact rfl; exact rfl; focus ((repeat (first | exact im_nil | refine im_cons rfl (.val _) ?_)); done)) | omega | ((first | apply w_lss | apply w_leq | apply w_neq | apply w_idx | apply w_ld | apply w_fa); iterate 3 exact rfl) | ((first | apply w_idxs | apply w_lds); iterate 3 exact rfl) | ((apply w_not); iterate 2 exact rfl) | (apply w_ldb; iterate 5 exact rfl))
      all_goals first
        | exact .bool Try.results47 rfl (isPo_false (i := i) (by omega) (fun hz => by unfold PR Bef at hz; omega))
        | (have e : i = xss.length := by omega
           subst e
           exact .bool Try.results47 rfl (by rw [isPo_all h1]; simp; try omega))
  · obtain rfl : i = 0 := by omega
    simp only [Int.natCast_zero] at *
    repeat' (first | (apply AOps.nil; try simp only [List.nil_append, List.cons_append, List.set_cons_zero, List.set_cons_succ, List.length_cons, List.length_nil, Nat.reduceAdd, AV.sh, AV.sh1, AV.sh0, AO.sh, List.map_cons, List.map_nil, Nat.zero_add, Nat.add_zero, setAll]) | ((apply AOps.splitP; exact rfl; exact rfl) <;> intro h) | ((apply AOps.splitN; exact rfl; exact rfl) <;> intro h) | (apply w_move; exact rfl; exact rfl) | (apply w_assign; exact rfl; exact rfl) | apply AWp.seq | apply AWp.region | ((apply AWp.condP; exact rfl) <;> intro h) | ((apply AWp.condN; exact rfl) <;> intro h) | (apply AWp.condT; exact rfl) | (apply AWp.condF; exact rfl) | apply AWp.block | apply AWp.ret | apply AWp.exit | apply AWp.skip | (apply AWp.regionQ; kernel_rfl; kernel_rfl) | (apply w_skip; exact rfl) | (apply w_pickT; exact rfl; exact rfl; exact rfl) | (apply w_pickF; exact rfl; exact rfl; exact rfl) | (apply w_len; exact rfl; exact rfl; first | exact .ints _ | exact .intss _ | exact .sli rfl | exact .sls rfl | exact .slr rfl | exact .orow rfl | exact .nil) | (apply w_call (l01In_c _ _ _); exact rfl; exact rfl; focus ((repeat (first | exact im_nil | refine im_cons rfl (.val _) ?_)); done)) | omega | ((first | apply w_lss | apply w_leq | apply w_gtr | apply w_neq | apply w_add | apply w_idx | apply w_ld | apply w_fa); iterate 3 exact rfl) | ((first | apply w_idxs | apply w_lds); iterate 3 exact rfl) | ((apply w_not); iterate 2 exact rfl) | (apply w_ldb; iterate 5 exact rfl) | (apply inI_of <;> omega))
    all_goals first
      | exact .bool Try.results47 rfl (isPo_false (i := 0) (by omega) (fun hz => by unfold PR Bef at hz; simp only [Int.natCast_zero] at hz; omega))
      | (refine ⟨0 + 1, ⟨by omega, fun j hj => ?_⟩, by omega, ⟨lee rfl (by (repeat (first | exact le_nil | refine le_eq rfl rfl ?_))), by (repeat (first | exact lo_nil | refine lo_eq rfl ?_)), rfl, rfl⟩⟩
         obtain rfl : j = 0 := by omega
         unfold PR
         simp only [Int.natCast_zero]
         omega)
      | (exact .bool Try.results47 rfl (by rw [isPo_all fun j hj => by omega]; simp; try omega))

theorem implIsPoly_c (xss : List (List Int)) : AFnV Try.prog 59 [.agg [.intss xss]] (.bool (isPo xss)) := by
  (refine AFnV.start Try.func59 Try.ntmps59 rfl (by kernel_rfl) fun hk0 => ?_; simp only [Env.start, enumF, List.length_cons, List.length_nil, Nat.reduceAdd, Nat.reduceSub, List.cons_append, List.nil_append])
  have hk := hk0 _ (List.mem_cons_self ..)
  obtain ⟨hk, hl⟩ := hk (.intss xss) (by simp)
  repeat' (first | (apply AOps.nil; try simp only [List.nil_append, List.cons_append, List.set_cons_zero, List.set_cons_succ, List.length_cons, List.length_nil, Nat.reduceAdd, AV.sh, AV.sh1, AV.sh0, AO.sh, List.map_cons, List.map_nil, Nat.zero_add, Nat.add_zero, setAll]) | (apply w_move; exact rfl; exact rfl) | (apply w_assign; exact rfl; exact rfl) | apply AWp.seq | apply AWp.region | ((apply AWp.condP; exact rfl) <;> intro h) | apply AWp.block | apply AWp.ret | apply AWp.skip | (apply w_len; exact rfl; exact rfl; first | exact .ints _ | exact .intss _ | exact .sli rfl | exact .sls rfl | exact .slr rfl | exact .orow rfl | exact .nil) | ((first | apply w_gtr | apply w_ld | apply w_fa); iterate 3 exact rfl) | ((apply w_boxa); iterate 2 exact rfl) | (apply w_ldb; iterate 5 exact rfl))
  · exact .bool Try.results59 rfl (isPo_long (by omega))
  refine AWp.loop (ι := Nat) (fun i => ⟨47, [(0, .agg [.intss xss]), (1, .optr 0 0), (10, .intss xss), (11, .i xss.length), (12, .i i)]⟩) (fun _ => [.bx 50 [.intss xss]]) (fun i => i ≤ xss.length ∧ ∀ j, j < i → PR xss j) (fun i => xss.length - i) 0 ⟨by omega, fun j hj => by omega⟩ ⟨lee rfl (by (repeat (first | exact le_nil | refine le_eq rfl rfl ?_))), by (repeat (first | exact lo_nil | refine lo_eq rfl ?_)), rfl, rfl⟩ ?_
  rintro i ⟨h0, h1⟩
  by_cases hi : i < xss.length
  · by_cases hz : (gets xss i).length = 3
    · by_cases hi0 : 0 < i
      · have hp := h1 (i - 1) (by omega)
        unfold PR at hp
        rw [show ((i - 1 : Nat) : Int) = ((i : Int) - 1) by omega] at hp
        obtain ⟨q0, q1, q2, q3, _⟩ := hp
        by_cases hr : (0 ≤ geti (gets xss i) 0 ∧ geti (gets xss i) 0 ≤ 60) ∧ (0 ≤ geti (gets xss i) 1 ∧ geti (gets xss i) 1 ≤ 60)
        · obtain ⟨r1, r2⟩ := hr
          have hb := cmpT_bef (gets xss ((i : Int) - 1)) (gets xss i)
          repeat' (first | (apply AOps.nil; try simp only [List.nil_append, List.cons_append, List.set_cons_zero, List.set_cons_succ, List.length_cons, List.length_nil, Nat.reduceAdd, AV.sh, AV.sh1, AV.sh0, AO.sh, List.map_cons, List.map_nil, Nat.zero_add, Nat.add_zero, setAll]) | ((apply AOps.splitP; exact rfl; exact rfl) <;> intro h) | ((apply AOps.splitN; exact rfl; exact rfl) <;> intro h) | (apply w_move; exact rfl; exact rfl) | (apply w_assign; exact rfl; exact rfl) | apply AWp.seq | apply AWp.region | ((apply AWp.condP; exact rfl) <;> intro h) | ((apply AWp.condN; exact rfl) <;> intro h) | (apply AWp.condT; exact rfl) | (apply AWp.condF; exact rfl) | apply AWp.block | apply AWp.ret | apply AWp.exit | apply AWp.skip | (apply w_skip; exact rfl) | (apply w_pickT; exact rfl; exact rfl; exact rfl) | (apply w_pickF; exact rfl; exact rfl; exact rfl) | (apply w_len; exact rfl; exact rfl; first | exact .ints _ | exact .intss _ | exact .sli rfl | exact .sls rfl | exact .slr rfl | exact .orow rfl | exact .nil) | (apply w_call (within3_c _ hz); exact rfl; exact rfl; focus ((repeat (first | exact im_nil | refine im_cons rfl (.val _) ?_ | refine im_cons rfl (.ints _) ?_)); done)) | (apply w_call (inRange_c _ _ _); exact rfl; exact rfl; focus ((repeat (first | exact im_nil | refine im_cons rfl (.val _) ?_)); done)) | (apply w_call (compareTerms_c _ _ q0 hz q1 q2 r1 r2); exact rfl; exact rfl; focus ((repeat (first | exact im_nil | refine im_cons rfl (.ints _) ?_)); done)) | ((first | apply w_lss | apply w_gtr | apply w_geq | apply w_neq | apply w_add | apply w_sub | apply w_idx | apply w_ld | apply w_fa | apply w_slhi); iterate 3 exact rfl) | ((first | apply w_idxs | apply w_lds); iterate 3 exact rfl) | ((apply w_not); iterate 2 exact rfl) | (apply w_ldb; iterate 5 exact rfl) | (apply inI_of <;> omega) | omega)
          all_goals first
            | (refine .bool Try.results59 rfl (isPo_false (i := i) hi ?_)
               intro hz
               unfold PR at hz
               first
                 | omega
                 | exact absurd (hz.2.2.2.2 hi0) (hb.1 (by assumption)))
            | (refine ⟨i + 1, ⟨by omega, fun j hj => ?_⟩, by omega, ⟨lee rfl (by (repeat (first | exact le_nil | refine le_eq rfl rfl ?_))), by (repeat (first | exact lo_nil | refine lo_eq rfl ?_)), rfl, rfl⟩⟩
               by_cases e : j = i
               · subst e
                 refine ⟨hz, r1, r2, by omega, fun _ => ?_⟩
                 exact Classical.byContradiction fun hn => by have := hb.2 hn; omega
               · exact h1 j (by omega))
        · repeat' (first | (apply AOps.nil; try simp only [List.nil_append, List.cons_append, List.set_cons_zero, List.set_cons_succ, List.length_cons, List.length_nil, Nat.reduceAdd, AV.sh, AV.sh1, AV.sh0, AO.sh, List.map_cons, List.map_nil, Nat.zero_add, Nat.add_zero, setAll]) | ((apply AOps.splitP; exact rfl; exact rfl) <;> intro h) | ((apply AOps.splitN; exact rfl; exact rfl) <;> intro h) | (apply w_move; exact rfl; exact rfl) | (apply w_assign; exact rfl; exact rfl) | apply AWp.seq | apply AWp.region | ((apply AWp.condP; exact rfl) <;> intro h) | (apply AWp.condT; exact rfl) | apply AWp.block | apply AWp.ret | apply AWp.exit | apply AWp.skip | (apply w_skip; exact rfl) | (apply w_pickT; exact rfl; exact rfl; exact rfl) | (apply w_pickF; exact rfl; exact rfl; exact rfl) | (apply w_len; exact rfl; exact rfl; first | exact .ints _ | exact .intss _ | exact .sli rfl | exact .sls rfl | exact .slr rfl | exact .orow rfl | exact .nil) | (apply w_call (within3_c _ hz); exact rfl; exact rfl; focus ((repeat (first | exact im_nil | refine im_cons rfl (.val _) ?_ | refine im_cons rfl (.ints _) ?_)); done)) | omega | ((first | apply w_lss | apply w_neq | apply w_idx | apply w_ld | apply w_slhi); iterate 3 exact rfl) | ((first | apply w_idxs | apply w_lds); iterate 3 exact rfl) | ((apply w_not); iterate 2 exact rfl))
          all_goals refine .bool Try.results59 rfl (isPo_false (i := i) hi ?_)
          all_goals intro hz
          all_goals unfold PR at hz
          all_goals omega
      · obtain rfl : i = 0 := by omega
        simp only [Int.natCast_zero] at *
        repeat' (first | (apply AOps.nil; try simp only [List.nil_append, List.cons_append, List.set_cons_zero, List.set_cons_succ, List.length_cons, List.length_nil, Nat.reduceAdd, AV.sh, AV.sh1, AV.sh0, AO.sh, List.map_cons, List.map_nil, Nat.zero_add, Nat.add_zero, setAll]) | ((apply AOps.splitP; exact rfl; exact rfl) <;> intro h) | ((apply AOps.splitN; exact rfl; exact rfl) <;> intro h) | (apply w_move; exact rfl; exact rfl) | (apply w_assign; exact rfl; exact rfl) | apply AWp.seq | apply AWp.region | ((apply AWp.condP; exact rfl) <;> intro h) | ((apply AWp.condN; exact rfl) <;> intro h) | (apply AWp.condT; exact rfl) | (apply AWp.condF; exact rfl) | apply AWp.block | apply AWp.ret | apply AWp.exit | apply AWp.skip | (apply w_skip; exact rfl) | (apply w_pickT; exact rfl; exact rfl; exact rfl) | (apply w_pickF; exact rfl; exact rfl; exact rfl) | (apply w_len; exact rfl; exact rfl; first | exact .ints _ | exact .intss _ | exact .sli rfl | exact .sls rfl | exact .slr rfl | exact .orow rfl | exact .nil) | (apply w_call (within3_c _ hz); exact rfl; exact rfl; focus ((repeat (first | exact im_nil | refine im_cons rfl (.val _) ?_ | refine im_cons rfl (.ints _) ?_)); done)) | (apply w_call (inRange_c _ _ _); exact rfl; exact rfl; focus ((repeat (first | exact im_nil | refine im_cons rfl (.val _) ?_)); done)) | omega | ((first | apply w_lss | apply w_gtr | apply w_neq | apply w_add | apply w_idx | apply w_ld | apply w_slhi); iterate 3 exact rfl) | ((first | apply w_idxs | apply w_lds); iterate 3 exact rfl) | ((apply w_not); iterate 2 exact rfl) | (apply inI_of <;> omega))
        all_goals first
          | (refine .bool Try.results59 rfl (isPo_false (i := 0) hi ?_)
             intro hz
             unfold PR at hz
             simp only [Int.natCast_zero] at hz
             omega)
          | (refine ⟨0 + 1, ⟨by omega, fun j hj => ?_⟩, by omega, ⟨lee rfl (by (repeat (first | exact le_nil | refine le_eq rfl rfl ?_))), by (repeat (first | exact lo_nil | refine lo_eq rfl ?_)), rfl, rfl⟩⟩
             obtain rfl : j = 0 := by omega
             unfold PR
             simp only [Int.natCast_zero]
             omega)
    · repeat' (first | (apply AOps.nil; try simp only [List.nil_append, List.cons_append, List.set_cons_zero, List.set_cons_succ, List.length_cons, List.length_nil, Nat.reduceAdd, AV.sh, AV.sh1, AV.sh0, AO.sh, List.map_cons, List.map_nil, Nat.zero_add, Nat.add_zero, setAll]) | ((apply AOps.splitP; exact rfl; exact rfl) <;> intro h) | (apply w_move; exact rfl; exact rfl) | (apply w_assign; exact rfl; exact rfl) | apply AWp.seq | apply AWp.region | ((apply AWp.condP; exact rfl) <;> intro h) | (apply AWp.condT; exact rfl) | apply AWp.block | apply AWp.ret | apply AWp.exit | apply AWp.skip | (apply w_skip; exact rfl) | (apply w_pickT; exact rfl; exact rfl; exact rfl) | (apply w_len; exact rfl; exact rfl; first | exact .ints _ | exact .intss _ | exact .sli rfl | exact .sls rfl | exact .slr rfl | exact .orow rfl | exact .nil) | omega | ((first | apply w_lss | apply w_neq | apply w_idx | apply w_ld); iterate 3 exact rfl) | ((first | apply w_idxs | apply w_lds); iterate 3 exact rfl))
      all_goals refine .bool Try.results59 rfl (isPo_false (i := i) hi ?_)
      all_goals intro hz
      all_goals unfold PR at hz
      all_goals omega
  · repeat' (first | (apply AOps.nil; try simp only [List.nil_append, List.cons_append, List.set_cons_zero, List.set_cons_succ, List.length_cons, List.length_nil, Nat.reduceAdd, AV.sh, AV.sh1, AV.sh0, AO.sh, List.map_cons, List.map_nil, Nat.zero_add, Nat.add_zero, setAll]) | (apply w_move; exact rfl; exact rfl) | (apply w_assign; exact rfl; exact rfl) | apply AWp.seq | apply AWp.region | ((apply AWp.condP; exact rfl) <;> intro h) | apply AWp.block | apply AWp.ret | apply AWp.exit | apply AWp.skip | omega | ((apply w_lss); iterate 3 exact rfl))
    have e : i = xss.length := by omega
    subst e
    refine .bool Try.results59 rfl ?_
    rw [isPo_all h1, eq_comm]
    simp
    omega

/-! ### Orders -/
noncomputable def poE (xss : List (List Int)) : Int := if isPo xss = true then (if xss.length = 0 then 5 else 0) else 1
theorem l17Some_c (xss : List (List Int)) : AFnV Try.prog 62 [.agg [.intss xss]] (.int .i64 (poE xss)) := by
  (refine AFnV.start Try.func62 Try.ntmps62 rfl (by kernel_rfl) fun hk => ?_; simp only [Env.start, enumF, List.length_cons, List.length_nil, Nat.reduceAdd, Nat.reduceSub, List.cons_append, List.nil_append])
  have c1 := l17Is_c xss
  cases h1 : isPo xss with
  | false =>
    rw [h1] at c1
    repeat' (first | (apply AOps.nil; try simp only [List.nil_append, List.cons_append, List.set_cons_zero, List.set_cons_succ, List.length_cons, List.length_nil, Nat.reduceAdd, AV.sh, AV.sh1, AV.sh0, AO.sh, List.map_cons, List.map_nil, Nat.zero_add, Nat.add_zero, setAll]) | (apply w_assign; exact rfl; exact rfl) | apply AWp.seq | apply AWp.region | (apply AWp.condT; exact rfl) | apply AWp.block | apply AWp.ret | (apply w_call (c1); exact rfl; exact rfl; focus ((repeat (first | exact im_nil | refine im_cons rfl (im_agg1 (.intss _)) ?_)); done)) | ((first | apply w_not | apply w_boxa); iterate 2 exact rfl) | (apply w_ldst; iterate 5 exact rfl))
    exact .int Try.results62 rfl (by simp [poE, h1])
  | true =>
    rw [h1] at c1
    repeat' (first | (apply AOps.nil; try simp only [List.nil_append, List.cons_append, List.set_cons_zero, List.set_cons_succ, List.length_cons, List.length_nil, Nat.reduceAdd, AV.sh, AV.sh1, AV.sh0, AO.sh, List.map_cons, List.map_nil, Nat.zero_add, Nat.add_zero, setAll]) | (apply w_assign; exact rfl; exact rfl) | apply AWp.seq | apply AWp.region | ((apply AWp.condP; exact rfl) <;> intro h) | (apply AWp.condF; exact rfl) | apply AWp.block | apply AWp.ret | apply AWp.skip | (apply w_len; exact rfl; exact rfl; first | exact .ints _ | exact .intss _ | exact .sli rfl | exact .sls rfl | exact .slr rfl | exact .orow rfl | exact .nil) | (apply w_call (c1); exact rfl; exact rfl; focus ((repeat (first | exact im_nil | refine im_cons rfl (im_agg1 (.intss _)) ?_)); done)) | ((first | apply w_eql | apply w_ld | apply w_fa); iterate 3 exact rfl) | ((first | apply w_not | apply w_boxa); iterate 2 exact rfl) | (apply w_ldb; iterate 5 exact rfl) | (apply w_ldst; iterate 5 exact rfl))
    · exact .int Try.results62 rfl (by rw [poE, if_pos h1, if_pos (by omega)])
    · exact .int Try.results62 rfl (by rw [poE, if_pos h1, if_neg (by omega)])

end Go.Proofs.Ytifkgmbghcmdeaa
/-
  slices.SortFunc at slices of slices, by the library's own contract laid at this dump in plain words. No condition.
-/
namespace Go.Proofs.Ytifkgmbghcmdeaa
open Go Go.RowKit Go.Shelf
def laysSort_ren : Go.Shelf.Ren := ⟨fun | 6 => 90 | 15 => 112 | 14 => 111 | 28 => 122 | 29 => 123 | 20 => 114 | 21 => 115 | 22 => 116 | 23 => 117 | 24 => 118 | 25 => 119 | 26 => 120 | 27 => 121 | 46 => 125 | 47 => 126 | 48 => 127 | 49 => 128 | 50 => 129 | 57 => 130 | n => n, fun | 22 => 45 | 24 => 22 | 25 => 99 | 3 => 3 | 39 => 107 | 0 => 0 | 53 => 118 | 55 => 120 | 4 => 4 | 46 => 111 | 45 => 110 | 50 => 115 | 5 => 5 | 9 => 9 | 66 => 121 | 70 => 125 | 76 => 127 | 77 => 128 | n => n, fun | n => n⟩
theorem laysSort : Go.Proofs.SlLaysF.n6 Try.prog laysSort_ren := {
  mixed := by kernel_rfl
  f6 := ⟨Try.f90.name, by decide, Try.func90.trans (congrArg some (by kernel_rfl))⟩
  f14 := ⟨Try.f111.name, by decide, Try.func111.trans (congrArg some (by kernel_rfl))⟩
  f15 := Try.func112.trans (congrArg some (by kernel_rfl))
  f20 := ⟨Try.f114.name, by decide, Try.func114.trans (congrArg some (by kernel_rfl))⟩
  f21 := ⟨Try.f115.name, by decide, Try.func115.trans (congrArg some (by kernel_rfl))⟩
  f22 := ⟨Try.f116.name, by decide, Try.func116.trans (congrArg some (by kernel_rfl))⟩
  f23 := ⟨Try.f117.name, by decide, Try.func117.trans (congrArg some (by kernel_rfl))⟩
  f24 := ⟨Try.f118.name, by decide, Try.func118.trans (congrArg some (by kernel_rfl))⟩
  f25 := ⟨Try.f119.name, by decide, Try.func119.trans (congrArg some (by kernel_rfl))⟩
  f26 := ⟨Try.f120.name, by decide, Try.func120.trans (congrArg some (by kernel_rfl))⟩
  f27 := ⟨Try.f121.name, by decide, Try.func121.trans (congrArg some (by kernel_rfl))⟩
  f28 := Try.func122.trans (congrArg some (by kernel_rfl))
  f29 := Try.func123.trans (congrArg some (by kernel_rfl))
  f46 := ⟨Try.f125.name, by decide, Try.func125.trans (congrArg some (by kernel_rfl))⟩
  f47 := Try.func126.trans (congrArg some (by kernel_rfl))
  f48 := Try.func127.trans (congrArg some (by kernel_rfl))
  f49 := ⟨Try.f128.name, by decide, Try.func128.trans (congrArg some (by kernel_rfl))⟩
  f50 := ⟨Try.f129.name, by decide, Try.func129.trans (congrArg some (by kernel_rfl))⟩
  f57 := ⟨Try.f130.name, by decide, Try.func130.trans (congrArg some (by kernel_rfl))⟩
  t0 := Try.underlying0
  a0 := Try.isAgg0
  z0 := Try.sizeOf0
  v0 := Try.zeroValue0
  t3 := Try.underlying3
  a3 := Try.isAgg3
  z3 := Try.sizeOf3
  v3 := Try.zeroValue3
  t4 := Try.underlying4
  a4 := Try.isAgg4
  z4 := Try.sizeOf4
  v4 := Try.zeroValue4
  t5 := Try.underlying5
  a5 := Try.isAgg5
  z5 := Try.sizeOf5
  v5 := Try.zeroValue5
  t9 := Try.underlying9
  a9 := Try.isAgg9
  z9 := Try.sizeOf9
  v9 := Try.zeroValue9
  t22 := Try.underlying45
  a22 := Try.isAgg45
  z22 := Try.sizeOf45
  v22 := Try.zeroValue45
  a24 := Try.isAgg22
  z24 := Try.sizeOf22
  t25 := Try.underlying99
  a25 := Try.isAgg99
  z25 := Try.sizeOf99
  v25 := Try.zeroValue99
  t39 := Try.underlying107
  a39 := Try.isAgg107
  z39 := Try.sizeOf107
  v39 := Try.zeroValue107
  t45 := Try.underlying110
  a45 := Try.isAgg110
  z45 := Try.sizeOf110
  v45 := Try.zeroValue110
  t46 := Try.underlying111
  a46 := Try.isAgg111
  z46 := Try.sizeOf111
  v46 := Try.zeroValue111
  t50 := Try.underlying115
  a50 := Try.isAgg115
  z50 := Try.sizeOf115
  v50 := Try.zeroValue115
  t53 := Try.underlying118
  a53 := Try.isAgg118
  z53 := Try.sizeOf118
  v53 := Try.zeroValue118
  t55 := Try.underlying120
  a55 := Try.isAgg120
  z55 := Try.sizeOf120
  v55 := Try.zeroValue120
  t66 := Try.underlying121
  a66 := Try.isAgg121
  z66 := Try.sizeOf121
  v66 := Try.zeroValue121
  t70 := Try.underlying125
  a70 := Try.isAgg125
  z70 := Try.sizeOf125
  v70 := Try.zeroValue125
  t76 := Try.underlying127
  a76 := Try.isAgg127
  z76 := Try.sizeOf127
  v76 := Try.zeroValue127
  t77 := Try.underlying128
  a77 := Try.isAgg128
  z77 := Try.sizeOf128
  v77 := Try.zeroValue128 }
open Go.RowKit Go.Lib Go.Sort in
theorem slices_SortFunc {α : Type} [Inhabited α] (enc : α → Value) (h1 : OneCell enc) (cf : α → α → Int) (hO : SWO (ltOf cf)) (g : Nat) (cb : Array Value) (blk off cap : Nat) (d : Array α) (w : World) (eg : ∀ args w, (callFunc g args).run Try.prog w = .ok (.enter g args) w) (hcmp : CmpLays1 Try.prog g cb enc cf blk off d.size w) (hH : Holds enc w blk off d) (hblk : blk < w.heap.size) (hsz : d.size < 4611686018427387904) :
    Calls Try.prog 90 #[.slice (some ⟨blk, off, none⟩) d.size cap, .func (.func g) #[] cb] w fun e w' =>
      e = .returned (.tuple #[]) ∧ ∃ d' n os, PermIn 0 d.size d d' ∧ SortedIn (ltOf cf) 0 d.size d' ∧ w' = sortWorld enc w blk off n d' os := Any.slices_SortFunc laysSort enc h1 cf hO g cb blk off cap d w eg hcmp hH hblk hsz
end Go.Proofs.Ytifkgmbghcmdeaa
/-
  slices.SortFunc at own slices of rows, by any function that compares rows. No condition.
-/
namespace Go.Proofs.Ytifkgmbghcmdeaa
open Go Go.RowKit Go.Sort

/-- What the sort asks of a function that compares rows. -/
def CmpOk (G : FuncId) (cmp : List Int → List Int → Int) (R : List Int → Prop) : Prop :=
  HasBody Try.prog G ∧ (∀ (w : World) (v1 v2 : Value) (xs ys : List Int), IntsAt w (fun _ => True) v1 xs → IntsAt w (fun _ => True) v2 ys → R xs → R ys →
    Calls Try.prog G #[v1, v2] w fun e w' => e = .returned (.int .i64 (cmp xs ys)) ∧ ∃ q os', w' = grow (w.drewN q) os') ∧
  (∀ x, R x → ¬ cmp x x < 0) ∧ (∀ x y z, R x → R y → R z → cmp x y < 0 → cmp y z < 0 → cmp x z < 0) ∧ ∀ x y z, R x → R y → R z → ¬ cmp x y < 0 → ¬ cmp y z < 0 → ¬ cmp x z < 0

section
variable (enc : Nat → Value) (w : World) (blk m : Nat) (dk : Array Nat) (oss : Array Obj)
theorem sw_size : (sortWorld enc w blk 0 m dk oss).heap.size = w.heap.size + oss.size := by
  simp [sortWorld, grow, putRow, mapBlock, Go.Sort.ahead]
theorem sw_other {b : Nat} (hb : b ≠ blk) (hl : b < w.heap.size) : (sortWorld enc w blk 0 m dk oss).heap[b]? = w.heap[b]? := by
  simp only [sortWorld, grow, putRow, mapBlock, Go.Sort.ahead]
  rw [Array.getElem?_append_left (by simpa using hl), Array.getElem?_modify, if_neg (fun e => hb e.symm)]
theorem sw_row {cur : Array Value} {e : TypeId} {fr : Nat × Nat} (h : w.heap[blk]? = some (.cells cur e fr)) : (sortWorld enc w blk 0 m dk oss).heap[blk]? = some (.cells (putCells enc 0 dk cur) e fr) := by
  have hl := (Array.getElem?_eq_some_iff.1 h).1
  simp only [sortWorld, grow, putRow, mapBlock, Go.Sort.ahead]
  rw [Array.getElem?_append_left (by simpa using hl), Array.getElem?_modify, if_pos rfl, h]
  rfl
end

theorem take_put (enc : Nat → Value) (d : Array Nat) (cur : Array Value) (h : d.size ≤ cur.size) : (putCells enc 0 d cur).toList.take d.size = d.toList.map enc := by
  apply List.ext_getElem?
  intro i
  rw [List.getElem?_take]
  by_cases hi : i < d.size
  · rw [if_pos hi, Array.getElem?_toList, putCells, Array.getElem?_mapIdx, Array.getElem?_eq_getElem (by omega), List.getElem?_map, Array.getElem?_toList, Array.getElem?_eq_getElem hi]
    simp only [Option.map_some, Nat.zero_le, true_and, Nat.zero_add, Nat.sub_zero, hi, if_true]
    rw [getElem!_pos d i hi]
  · rw [if_neg hi, List.getElem?_eq_none (by simp; omega)]

section
variable {env : Env} {os : List AO} {d : Option Tmp} {ty : TypeId} {pos : String} {af : Array Edge} {g : Option (Nat × Bool)}

set_option maxHeartbeats 2000000 in
theorem c_sortg {G : FuncId} {cmp : List Int → List Int → Int} {R : List Int → Prop} (hcmpok : CmpOk G cmp R) {x y : Operand} {ats : Array TypeId} {h : Nat} {e e2 : TypeId} {xss : List (List Int)} (hx : AV.ev env x = .own h) (hs : os[h]? = some (.sls e e2 xss)) (hy : AV.ev env y = .val (.func (.func G) #[] #[])) (hp : ∀ xs ∈ xss, R xs) (hn : 0 < xss.length ∧ xss.length ≤ 1048576) :
    COp Try.prog ⟨d, .call { callee := .value (.func 90), args := #[x, y], argTypes := ats }, ty, pos, af, g⟩ env os
      (fun r e' o => ∃ idx : List Nat, idx.Perm (List.range xss.length) ∧ (∀ i j : Nat, i < j → j < idx.length → ¬ cmp (xss.getD (idx.getD j 0) []) (xss.getD (idx.getD i 0) []) < 0) ∧ r = .any ∧ e' = env.mp (AV.noRow h) ∧ o = ((((os ++ [AO.sli e2 []]).map (AO.via (AV.noRow h) h)).set h (.sls e e2 (idx.map fun i => xss.getD i []))).set os.length .dead)) := by
  intro base w gs tm hr
  have hxv := hr.ev x
  rw [hx] at hxv
  have hyv := hr.evv hy
  generalize hv : Act.eval ⟨tm, []⟩ x = v at hxv
  cases hxv with
  | @own _ gh hg =>
  obtain ⟨us, bs, mb, b1, b2, b3, b4, b5, b6, b7, b8⟩ := hr.ho _ _ _ hg hs
  rcases b1.2 with ⟨_, c2⟩ | ⟨blk, cap, cur, c1, c2, c3, c4, c5, c6, c7⟩
  · omega
  have hmb : gh.v.ownBlock = some blk := by rw [c1]; rfl
  have hblk : blk ∈ mb := by
    rcases b6 with ⟨q1, _⟩ | ⟨q1, q2⟩
    · rw [hmb] at q1; cases q1
    · rw [hmb] at q1; cases q1; simp [q2]
  have hmb1 : ∀ b ∈ mb, b = blk := by
    rcases b6 with ⟨q1, _⟩ | ⟨q1, q2⟩
    · rw [hmb] at q1; cases q1
    · rw [hmb] at q1; cases q1; intro b hb; rw [q2] at hb; simpa using hb
  have a8' : (mb ++ bs.flatten).Nodup := by rw [← b7]; exact b8
  have hlt : blk < w.heap.size := (Array.getElem?_eq_some_iff.1 c3).1
  have hbl0 : ∀ b, b ∈ gh.bl → b < w.heap.size := fun b hb => (hr.hn _ _ _ hg hs (by simp) b hb).2
  have rowblk : ∀ (j : Nat) u, us[j]? = some u → ∀ c, u.ownBlock = some c → c ∈ bs.flatten := by
    intro j u hj c hc
    have hjb : j < bs.length := by
      have := (List.getElem?_eq_some_iff.1 hj).1
      omega
    exact List.mem_flatten.2 ⟨bs.getD j [], by rw [List.getD_eq_getElem?_getD, List.getElem?_eq_getElem hjb]; simp, by rw [← (b5 j u hj).2.2, hc]; simp⟩
  have flne : ∀ c, c ∈ bs.flatten → c ≠ blk ∧ c < w.heap.size := fun c hc => ⟨fun e => (List.nodup_append.1 a8').2.2 blk hblk c hc e.symm, hbl0 c (by rw [b7]; exact List.mem_append.2 (.inr hc))⟩
  -- the rows by their numbers
  let n := xss.length
  let ix : Nat → Nat := fun i => if i < n then i else 0
  have hix : ∀ i, ix i < n := fun i => by show (if i < n then i else 0) < n; split <;> omega
  let enc : Nat → Value := fun i => us.getD (ix i) undef
  let row : Nat → List Int := fun i => xss.getD (ix i) []
  let cf : Nat → Nat → Int := fun i j => cmp (row i) (row j)
  have hus : ∀ i, us[ix i]? = some (enc i) := fun i => by
    have : ix i < us.length := by rw [b2]; exact hix i
    show us[ix i]? = some (us.getD (ix i) undef)
    rw [List.getD_eq_getElem?_getD, List.getElem?_eq_getElem this]; rfl
  have hrow : ∀ i, R (row i) := fun i => by
    have : ix i < xss.length := hix i
    refine hp _ ?_
    show xss.getD (ix i) [] ∈ xss
    rw [List.getD_eq_getElem?_getD, List.getElem?_eq_getElem this]
    exact List.getElem_mem this
  have henc : ∀ i, ∃ c cp, enc i = .slice c (row i).length cp := fun i => by
    obtain ⟨q1, q2, q3⟩ := b5 _ _ (hus i)
    obtain ⟨ua, uc, eu⟩ := ownsRow_slice q1
    exact ⟨ua, uc, eu⟩
  have h1 : OneCell enc := fun i => by obtain ⟨c, cp, q⟩ := henc i; rw [q]; rfl
  have hlt' : ∀ i j, ltOf cf i j = true ↔ cmp (row i) (row j) < 0 := fun i j => by
    unfold ltOf
    rw [decide_eq_true_iff]
  have hlf : ∀ i j, ltOf cf i j = false ↔ ¬ cmp (row i) (row j) < 0 := fun i j => by
    rw [← hlt', Bool.not_eq_true]
  have hO : SWO (ltOf cf) := by
    refine ⟨fun i => ?_, fun i j k p q => ?_, fun i j k p q => ?_⟩
    · rw [hlf]; exact hcmpok.2.2.1 _ (hrow i)
    · rw [hlt'] at *; exact hcmpok.2.2.2.1 _ _ _ (hrow i) (hrow j) (hrow k) p q
    · rw [hlf] at *; exact hcmpok.2.2.2.2 _ _ _ (hrow i) (hrow j) (hrow k) p q
  have hbd : HasBody Try.prog 90 := ⟨_, _, Try.func90, by kernel_rfl, rfl⟩
  have hbc := hcmpok.1
  have hsz : (Array.range n).size = us.length := by simp [n, b2]
  have hcmp : CmpLays1 Try.prog G #[] enc cf blk 0 (Array.range n).size w := by
    intro m oss dk hdk i j
    have hat : ∀ i, IntsAt (sortWorld enc w blk 0 m dk oss) (fun _ => True) (enc i) (row i) := fun i => by
      obtain ⟨q1, q2, q3⟩ := b5 _ _ (hus i)
      refine ⟨RowAt.of_owns (base := base) (e := e2) (ownsRow_of_block q1 fun c hc => ?_), q2⟩
      have := flne c (rowblk _ _ (hus i) c hc)
      exact sw_other enc w blk m dk oss this.1 this.2
    exact hcmpok.2.1 _ _ _ _ _ (hat i) (hat j) (hrow i) (hrow j)
  have hH : Holds enc w blk 0 (Array.range n) := by
    intro j hj
    have hj' : j < n := by simpa using hj
    obtain ⟨b', cp, r1, r2, r3, r4⟩ := own_slice b1 (i := j) (by rw [b2]; exact hj')
    have : b' = blk := by rw [hmb] at r2; exact (Option.some.inj r2).symm
    subst this
    rw [Nat.zero_add]
    refine ⟨?_, r4⟩
    have e1 : (Array.range n)[j]! = j := by rw [getElem!_pos _ j (by simpa using hj')]; simp
    have e2 : ix j = j := if_pos hj'
    rw [r3, e1, ← hus j, e2]
  refine ⟨_, _, run_call hbd [x, y] ats _ rfl w, ?_⟩
  have hcall := slices_SortFunc enc h1 cf hO G #[] blk 0 cap (Array.range n) w (fun args w => hbc.run args w) hcmp hH hlt (by simp [n]; omega)
  have eargs : ([x, y].map (Act.eval ⟨tm, []⟩)).toArray = #[.slice (some ⟨blk, 0, none⟩) (Array.range n).size cap, .func (.func G) #[] #[]] := by
    simp only [List.map_cons, List.map_nil, hv, hyv, c1, hsz]
  rw [eargs]
  refine hcall.mono ?_
  rintro e' w' ⟨rfl, d', m, oss, ⟨p1, p2, p3⟩, hsort, rfl⟩
  have hdl : d'.size = n := by simpa using p1
  have hperm : d'.toList.Perm (List.range n) := by
    have e1 : (d'.extract 0 (Array.range n).size).toList = d'.toList := by simp; rw [List.take_of_length_le (by simp [hdl])]
    have e2 : ((Array.range n).extract 0 (Array.range n).size).toList = List.range n := by simp
    rw [e1, e2] at p3
    exact p3
  let idx := d'.toList
  have hil : idx.length = n := by simpa [idx] using hdl
  have hin : ∀ i ∈ idx, i < n := fun i hi => List.mem_range.1 (hperm.mem_iff.1 hi)
  have hind : idx.Nodup := hperm.nodup_iff.2 List.nodup_range
  let cs : List (List Nat) := idx.map fun i => bs.getD i []
  let us' : List Value := idx.map enc
  have hus' : ∀ i ∈ idx, us[i]? = some (enc i) := fun i hi => by
    have := hus i
    have e2 : ix i = i := if_pos (hin i hi)
    rwa [e2] at this
  let g' : Gh := ⟨gh.v, gh.b, mb ++ cs.flatten, us'⟩
  have hcs : ∀ b, b ∈ cs.flatten → b ∈ bs.flatten := by
    intro b hb
    obtain ⟨l, hl, hbl⟩ := List.mem_flatten.1 hb
    obtain ⟨i, hi, rfl⟩ := List.mem_map.1 hl
    have hi2 : i < bs.length := by rw [b3]; exact hin i hi
    rw [List.getD_eq_getElem?_getD, List.getElem?_eq_getElem hi2] at hbl
    exact List.mem_flatten.2 ⟨_, List.getElem_mem hi2, hbl⟩
  -- a dummy object, to be taken in
  let gd : Gh := ⟨.slice none 0 0, 0, [], []⟩
  have hr1 : Rel base w (gs ++ [gd]) env (os ++ [.sli e2 []]) tm := hr.new (Below.refl _ _) (.sli e2 []) gd (fun _ b hb => by simp [gd] at hb) ⟨World.ownsRow_nil w base e2 1, fun x hx => by simp at hx, .inl ⟨rfl, rfl⟩⟩
  have hgl : h < gs.length := (List.getElem?_eq_some_iff.1 hg).1
  have hol : h < os.length := (List.getElem?_eq_some_iff.1 hs).1
  have hg1 : (gs ++ [gd])[h]? = some gh := by rw [List.getElem?_append_left hgl]; exact hg
  have hs1 : (os ++ [AO.sli e2 []])[h]? = some (.sls e e2 xss) := by rw [List.getElem?_append_left hol]; exact hs
  have hgd : (gs ++ [gd])[os.length]? = some gd := by rw [← hr.hl]; simp
  have hod : (os ++ [AO.sli e2 []])[os.length]? = some (.sli e2 []) := by simp
  have sv : SameV h (gs ++ [gd]) ((gs ++ [gd]).set h g') := by
    refine ⟨fun j z hj hz => ?_, fun z hz => ⟨g', ?_, ?_, ?_⟩⟩
    · rw [List.getElem?_set, if_neg (fun e => hj e.symm)]; exact hz
    · rw [List.getElem?_set, if_pos rfl, if_pos (by simp; omega)]
    · rw [hg1] at hz; cases hz; rfl
    · rw [hg1] at hz; cases hz; rfl
  have hkeep : ∀ b, b < w.heap.size → b ≠ blk → (sortWorld enc w blk 0 m d' oss).heap[b]? = w.heap[b]? := fun b hb hne => sw_other enc w blk m d' oss hne hb
  have hblkbl : blk ∈ gh.bl := by rw [b7]; exact List.mem_append.2 (.inl hblk)
  refine ⟨.tuple #[], .any, _, _, (gs ++ [gd]).set h g', rfl, ⟨idx, hperm, ?_, rfl, rfl, rfl⟩, hr1.absorb hg1 hs1 trivial hgd hod trivial (by omega) g' _ (AV.noRow h) rfl (fun b hb hn => hkeep b hb fun e => hn (by rw [e]; exact hblkbl)) (by rw [sw_size]; omega) ?_ (fun kp hv => hv.noRow kp sv) ?_, .any _, ?_⟩
  · intro i j hij hj
    have hj2 : j < d'.size := by rw [hdl, ← hil]; exact hj
    have hs2 := hsort i j (Nat.zero_le _) hij (by simpa using (by omega : j < n))
    rw [hlf, getElem!_pos d' j hj2, getElem!_pos d' i (by omega)] at hs2
    have q : ∀ a (ha : a < d'.size), row d'[a] = xss.getD (idx.getD a 0) [] := fun a ha => by
      have e3 : idx.getD a 0 = d'[a] := by
        show d'.toList.getD a 0 = _
        rw [List.getD_eq_getElem?_getD, Array.getElem?_toList, Array.getElem?_eq_getElem ha]; rfl
      have e4 : d'[a] < n := hin _ (by show d'[a] ∈ d'.toList; simp)
      rw [e3]
      show xss.getD (ix d'[a]) [] = _
      rw [show ix d'[a] = d'[a] from if_pos e4]
    rw [q j hj2, q i (by omega)] at hs2
    exact hs2
  · intro b hb
    have hbb : b ∈ gh.bl := by
      rw [b7]
      rcases List.mem_append.1 hb with hb | hb
      · exact List.mem_append.2 (.inl hb)
      · exact List.mem_append.2 (.inr (hcs b hb))
    refine ⟨.inl hbb, ?_⟩
    rw [sw_size]
    have := hbl0 b hbb
    omega
  · intro kp
    refine ⟨us', cs, mb, ?_, by simp [us'], by simp [cs], rfl, fun j u hj => ?_, b6, rfl, ?_⟩
    · refine ⟨by simp, .inr ⟨blk, cap, _, ?_, c2, sw_row enc w blk m d' oss c3, ?_, c5, ?_, ?_⟩⟩
      · show gh.v = _
        rw [c1]
        have : us'.length = us.length := by simp [us', hil, b2, n]
        rw [this]
      · have : us'.length = us.length := by simp [us', hil, b2, n]
        omega
      · simpa [putCells] using c6
      · have : us'.length * 1 = d'.size := by simp [us', hil, hdl]
        rw [this]
        exact take_put enc d' cur (by rw [c6, hdl]; omega)
    · obtain ⟨i, hi, rfl⟩ : ∃ i, idx[j]? = some i ∧ enc i = u := by
        rw [List.getElem?_map] at hj
        cases hjx : idx[j]? with
        | none => rw [hjx] at hj; cases hj
        | some i => rw [hjx] at hj; exact ⟨i, rfl, Option.some.inj hj⟩
      have him := List.mem_of_getElem? hi
      have g1 : (idx.map fun i => xss.getD i []).getD j [] = xss.getD i [] := by
        rw [List.getD_eq_getElem?_getD, List.getElem?_map, hi]; rfl
      have g2 : cs.getD j [] = bs.getD i [] := by
        show (idx.map fun i => bs.getD i []).getD j [] = _
        rw [List.getD_eq_getElem?_getD, List.getElem?_map, hi]; rfl
      obtain ⟨q1, q2, q3⟩ := b5 i _ (hus' i him)
      rw [g1, g2]
      refine ⟨ownsRow_of_block q1 fun c hc => ?_, q2, q3⟩
      have hcf := rowblk i _ (hus' i him) c hc
      exact hkeep c (flne c hcf).2 (flne c hcf).1
    · show (mb ++ cs.flatten).Nodup
      rw [List.nodup_append] at a8' ⊢
      refine ⟨a8'.1, nodup_sel a8'.2.1 hind (fun i hi => by rw [b3]; exact hin i hi), fun a ha b hb e => a8'.2.2 a ha b (hcs b hb) e⟩
  · refine ⟨rfl, rfl, rfl, by rw [sw_size]; omega, fun b hb => hkeep b (by have := hr.hb; omega) fun e => ?_⟩
    omega
end

section
variable {env : Env} {os : List AO} {d : Tmp} {ty : TypeId} {pos : String} {af : Array Edge} {l rest : List Oper} {K : APost}
theorem w_sortg {G : FuncId} {cmp : List Int → List Int → Int} {R : List Int → Prop} (hcmpok : CmpOk G cmp R) {x y : Operand} {ats : Array TypeId} {h : Nat} {e e2 : TypeId} {xss : List (List Int)} (hp : ∀ xs ∈ xss, R xs) (hn : 0 < xss.length ∧ xss.length ≤ 1048576) (hx : evo env x = some (.own h)) (hs : os[h]? = some (.sls e e2 xss)) (hy : evo env y = some (.val (.func (.func G) #[] #[])))
    (h' : ∀ idx : List Nat, idx.Perm (List.range xss.length) → (∀ i j : Nat, i < j → j < idx.length → ¬ cmp (xss.getD (idx.getD j 0) []) (xss.getD (idx.getD i 0) []) < 0) → AOps Try.prog .seq l rest K (Env.up (env.mp (AV.noRow h)) d .any) ((((os ++ [AO.sli e2 []]).map (AO.via (AV.noRow h) h)).set h (.sls e e2 (idx.map fun i => xss.getD i []))).set os.length .dead)) :
    AOps Try.prog .seq l (⟨some d, .call { callee := .value (.func 90), args := #[x, y], argTypes := ats }, ty, pos, af, none⟩ :: rest) K env os :=
  AOps.ca (c_sortg hcmpok (ev_of hx) hs (ev_of hy) hp hn) fun r e o ⟨idx, h1, h2, h3, h4, h5⟩ => by subst h3; subst h4; subst h5; exact h' idx h1 h2
end
end Go.Proofs.Ytifkgmbghcmdeaa
/-
  The comparison of terms that the sort is handed, walked by the kit's own steps. No condition but a bound on the exponents.
-/
namespace Go.Proofs.Ytifkgmbghcmdeaa
open Go Go.RowKit

end Go.Proofs.Ytifkgmbghcmdeaa
/-
  Partial derivatives, and sorted lists: the plain law. No program.
-/
namespace Go.Proofs.Ytifkgmbghcmdeaa
open Go Go.RowKit
attribute [local irreducible] AWp AOps ResIs Ret1 QOp LOp COp AFnV AFn Imms LeE LeO
set_option maxHeartbeats 1000000
set_option linter.unusedSimpArgs false
set_option linter.unusedVariables false

theorem po_bef {ts : List (List Int)} (h : isPo ts = true) : ∀ (d i : Nat), i + d + 1 < ts.length → Bef (gets ts (i : Nat)) (gets ts ((i + d + 1 : Nat) : Int))
  | 0, i, hi => by
    have := ((isPo_of h).2 (i + 1) (by omega)).2.2.2.2 (by omega)
    rw [show (((i + 1 : Nat) : Int) - 1) = (i : Int) by omega] at this
    exact this
  | d + 1, i, hi => by
    have ih := po_bef h d i (by omega)
    have := ((isPo_of h).2 (i + (d + 1) + 1) (by omega)).2.2.2.2 (by omega)
    rw [show (((i + (d + 1) + 1 : Nat) : Int) - 1) = ((i + d + 1 : Nat) : Int) by omega] at this
    unfold Bef at *
    omega
theorem po_lt {ts : List (List Int)} (h : isPo ts = true) {i j : Nat} (hij : i < j) (hj : j < ts.length) : Bef (gets ts (i : Nat)) (gets ts (j : Nat)) := by
  have := po_bef h (j - i - 1) i (by omega)
  rwa [show i + (j - i - 1) + 1 = j by omega] at this

end Go.Proofs.Ytifkgmbghcmdeaa
