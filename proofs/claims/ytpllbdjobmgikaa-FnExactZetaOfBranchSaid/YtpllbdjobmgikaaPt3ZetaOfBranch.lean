/-
  Parts of the proof, one behind the other: contracts of functions and plain laws. No condition.
-/
import Derived.Lib.SliceRun
import Derived.Test.YtpllbdjobmgikaaPt2ZetaOfBranch
/-
  The greatest common divisor, in the program and in the model. No condition but that both numbers are no greater than 2^62.
-/
namespace Go.Proofs.Ytpllbdjobmgikaa
open Go Go.RowKit
attribute [local irreducible] AWp AOps ResIs Ret1 QOp LOp COp AFnV AFn Imms LeE LeO
set_option maxHeartbeats 1000000
set_option linter.unusedSimpArgs false
set_option linter.unusedVariables false

theorem gcd_step (a b : Int) (h0 : 0 ≤ a) (h : 0 < b) : Int.gcd b (a % b) = Int.gcd a b := by
  obtain ⟨x, rfl⟩ := Int.eq_ofNat_of_zero_le h0
  obtain ⟨y, rfl⟩ := Int.eq_ofNat_of_zero_le (Int.le_of_lt h)
  rw [← Int.natCast_emod]
  simp only [Int.gcd_natCast_natCast]
  rw [Nat.gcd_comm x y, Nat.gcd_comm y]
  exact (Nat.gcd_rec y x).symm

def mid (a : Int) : Prop := -4611686018427387904 ≤ a ∧ a ≤ 4611686018427387904

theorem abs_c (a : Int) (ha : mid a) : AFnV Try.prog 49 [.i a] (.int .i64 a.natAbs) := by
  unfold mid at ha
  (refine AFnV.start Try.func49 Try.ntmps49 rfl (by kernel_rfl) fun hk => ?_; simp only [Env.start, enumF, List.length_cons, List.length_nil, Nat.reduceAdd, Nat.reduceSub, List.cons_append, List.nil_append])
  repeat' (first
  | (apply AOps.nil; try simp only [List.nil_append, List.cons_append, List.set_cons_zero, List.set_cons_succ, List.length_cons, List.length_nil, Nat.reduceAdd, AV.sh, AV.sh1, AV.sh0, AO.sh, List.map_cons, List.map_nil, Nat.zero_add, Nat.add_zero, setAll])
  | ((apply AOps.splitP; exact rfl; exact rfl) <;> intro h)
  | ((apply AOps.splitN; exact rfl; exact rfl) <;> intro h)
  | (apply w_move; exact rfl; exact rfl)
  | (apply w_assign; exact rfl; exact rfl)
  | apply AWp.seq
  | apply AWp.region
  | ((apply AWp.condP; exact rfl) <;> intro h)
  | ((apply AWp.condN; exact rfl) <;> intro h)
  | (apply AWp.condT; exact rfl)
  | (apply AWp.condF; exact rfl)
  | ((apply AWp.condB; exact rfl) <;> intro h)
  | apply AWp.block
  | apply AWp.ret
  | apply AWp.exit
  | apply AWp.skip
  | (apply AWp.regionQ; kernel_rfl; kernel_rfl)
  | (apply if_pos'; exact rfl)
  | (apply if_neg'; decide)
  | (apply w_skip; exact rfl)
  | (apply w_pickT; exact rfl; exact rfl; exact rfl)
  | (apply w_pickF; exact rfl; exact rfl; exact rfl)
  | (apply w_len; exact rfl; exact rfl; first | exact .ints _ | exact .intss _ | exact .sli rfl | exact .sls rfl | exact .slr rfl | exact .orow rfl | exact .nil)
  | ((first | apply w_lss | apply w_leq | apply w_gtr | apply w_geq | apply w_eql | apply w_neq | apply w_add | apply w_sub | apply w_mul | apply w_idx | apply w_ld | apply w_fld | apply w_fa | apply w_extv | apply w_min | apply w_max | apply w_slhi | apply w_sllo | apply w_bs2); iterate 3 exact rfl)
  | ((first | apply w_eqlb | apply w_neqb | apply w_idxs | apply w_lds | apply w_ext); iterate 3 exact rfl)
  | (apply w_rem; exact rfl; exact rfl; exact rfl; (focus (omega; done)); (focus (omega; done)))
  | (apply w_quo; exact rfl; exact rfl; exact rfl; (focus (omega; done)); (focus (omega; done)))
  | (apply w_remT; exact rfl; exact rfl; exact rfl)
  | (apply w_quoT; exact rfl; exact rfl; exact rfl)
  | ((first | apply w_not | apply w_neg | apply w_conv | apply w_build0 | apply w_bs1 | apply w_boxa); iterate 2 exact rfl)
  | (apply w_idxo; exact rfl; exact rfl; (first | exact .sli rfl | exact .sls rfl | exact .slr rfl); exact rfl)
  | ((first | apply w_idxr | apply w_ldr); iterate 4 exact rfl)
  | (apply w_ldo; iterate 4 exact rfl)
  | (apply w_ldls; iterate 4 exact rfl)
  | (apply w_ldrp; iterate 4 exact rfl)
  | (apply w_ldb; iterate 5 exact rfl)
  | (apply w_ldst; iterate 5 exact rfl)
  | ((first | apply w_sllh | apply w_stbi); iterate 4 exact rfl)
  | ((first | apply w_oslo | apply w_oshi | apply w_stbii); iterate 4 exact rfl)
  | (apply w_copy; exact rfl; (first | exact .own rfl rfl rfl | exact .osub); exact rfl; rotate_left 1; exact rfl; (first | exact .ints _ | exact .sli rfl | exact .orow rfl | exact .nil | exact .osub rfl (by simp; omega)))
  | (apply w_build1; exact rfl; exact rfl; (first | exact one_val rfl rfl | exact one_ints | exact one_intss | exact one_own rfl True.intro))
  | (apply w_build2; exact rfl; exact rfl; exact rfl; (first | exact one_val rfl rfl | exact one_ints | exact one_intss | exact one_own rfl True.intro); (first | exact one_val rfl rfl | exact one_ints | exact one_intss | exact one_own rfl True.intro))
  | (apply w_bs0; iterate 1 exact rfl)
  | (apply w_appn; exact rfl; exact rfl; (first | exact .ints _ | exact .sli rfl | exact .orow rfl | exact .nil | exact .osub rfl (by simp; omega)); exact rfl)
  | (apply w_app; exact rfl; exact rfl; exact rfl; exact rfl; (first | exact .ints _ | exact .sli rfl | exact .orow rfl | exact .nil | exact .osub rfl (by simp; omega)); rotate_left 1; simp only [Env.mp, List.map_cons, List.map_nil, List.set_cons_zero, List.set_cons_succ, AV.kill, AV.kill1, AO.kill, AV.noRow, AV.noRow1, AO.via, reduceIte, Nat.reduceEqDiff, Nat.reduceLT, Env.up, Nat.zero_ne_one, Nat.one_ne_zero, Nat.reduceAdd, List.cons_append, List.nil_append]; rotate_left 1)
  | (apply w_alst; iterate 2 exact rfl)
  | (apply w_alone; iterate 3 exact rfl)
  | (apply w_mki; exact rfl; exact rfl; rotate_left 3; exact rfl; rotate_left 1)
  | (apply w_mkr; exact rfl; exact rfl; rotate_left 3; exact rfl; rotate_left 1)
  | (apply w_strow; exact rfl; exact rfl; rotate_left 1; exact rfl; exact rfl; exact rfl; exact rfl; simp only [Env.mp, List.map_cons, List.map_nil, List.set_cons_zero, List.set_cons_succ, AV.kill, AV.kill1, AO.kill, AV.noRow, AV.noRow1, AO.via, reduceIte, Nat.reduceEqDiff, Nat.reduceLT, Env.up, Nat.zero_ne_one, Nat.one_ne_zero, Nat.reduceAdd, List.cons_append, List.nil_append]; rotate_left 1)
  | (apply w_sti; exact rfl; exact rfl; rotate_left 1; exact rfl; rotate_left 2)
  | (apply w_stst; iterate 5 exact rfl)
  | (apply w_stbv; iterate 6 exact rfl)
  | (apply w_stbo; exact rfl; exact rfl; exact rfl; exact rfl; exact rfl; exact True.intro)
  | ((apply AOps.splitB; exact rfl; exact rfl) <;> intro h)
  | apply AllOf.nil
  | (apply AllOf.cons; exact rfl)
  | (apply AAny.take; exact rfl; exact rfl; kernel_rfl; kernel_rfl)
  | (apply AAny.all; exact rfl)
  | (apply AAny.done; exact rfl)
  | (apply inI_of <;> omega)
  | omega
  | (simp <;> omega))
  all_goals exact .int Try.results49 rfl (by omega)

theorem divisor_c (a b : Int) (ha : mid a) (hb : mid b) : AFnV Try.prog 34 [.i a, .i b] (.int .i64 (Int.gcd a b)) := by
  (refine AFnV.start Try.func34 Try.ntmps34 rfl (by kernel_rfl) fun hk => ?_; simp only [Env.start, enumF, List.length_cons, List.length_nil, Nat.reduceAdd, Nat.reduceSub, List.cons_append, List.nil_append])
  repeat' (first
  | (apply AOps.nil; try simp only [List.nil_append, List.cons_append, List.set_cons_zero, List.set_cons_succ, List.length_cons, List.length_nil, Nat.reduceAdd, AV.sh, AV.sh1, AV.sh0, AO.sh, List.map_cons, List.map_nil, Nat.zero_add, Nat.add_zero, setAll])
  | ((apply AOps.splitP; exact rfl; exact rfl) <;> intro h)
  | ((apply AOps.splitN; exact rfl; exact rfl) <;> intro h)
  | (apply w_move; exact rfl; exact rfl)
  | (apply w_assign; exact rfl; exact rfl)
  | apply AWp.seq
  | apply AWp.region
  | ((apply AWp.condP; exact rfl) <;> intro h)
  | ((apply AWp.condN; exact rfl) <;> intro h)
  | (apply AWp.condT; exact rfl)
  | (apply AWp.condF; exact rfl)
  | ((apply AWp.condB; exact rfl) <;> intro h)
  | apply AWp.block
  | apply AWp.ret
  | apply AWp.exit
  | apply AWp.skip
  | (apply AWp.regionQ; kernel_rfl; kernel_rfl)
  | (apply if_pos'; exact rfl)
  | (apply if_neg'; decide)
  | (apply w_skip; exact rfl)
  | (apply w_pickT; exact rfl; exact rfl; exact rfl)
  | (apply w_pickF; exact rfl; exact rfl; exact rfl)
  | (apply w_len; exact rfl; exact rfl; first | exact .ints _ | exact .intss _ | exact .sli rfl | exact .sls rfl | exact .slr rfl | exact .orow rfl | exact .nil)
  | (apply w_call (abs_c _ ha); exact rfl; exact rfl; focus ((repeat (first | exact im_nil | refine im_cons rfl (.val _) ?_ | refine im_cons rfl (.ints _) ?_ | refine im_cons rfl (.intss _) ?_ | refine im_cons rfl (.sli rfl) ?_ | refine im_cons rfl (.sls rfl) ?_ | refine im_cons rfl (.orow rfl) ?_ | refine im_cons rfl (.osub rfl (by simp; omega)) ?_ | refine im_cons rfl (.nil) ?_ | refine im_cons rfl (.nils) ?_ | refine im_cons rfl (im_agg2 (.val _) (.ints _)) ?_ | refine im_cons rfl (im_agg2 (.val _) (.sli rfl)) ?_ | refine im_cons rfl (im_agg2 (.val _) (.nil)) ?_ | refine im_cons rfl (im_agg2 (.ints _) (.intss _)) ?_ | refine im_cons rfl (im_agg2 (.ints _) (.sls rfl)) ?_ | refine im_cons rfl (im_agg2 (.sli rfl) (.intss _)) ?_ | refine im_cons rfl (im_agg2 (.sli rfl) (.sls rfl)) ?_ | refine im_cons rfl (im_agg1 (.ints _)) ?_ | refine im_cons rfl (im_agg1 (.sli rfl)) ?_ | refine im_cons rfl (im_agg1 (.intss _)) ?_ | refine im_cons rfl (im_agg1 (.sls rfl)) ?_ | refine im_cons rfl (im_agg1 (.nil)) ?_ | refine im_cons rfl (im_agg1 (.nils)) ?_)); done))
  | (apply w_call (abs_c _ hb); exact rfl; exact rfl; focus ((repeat (first | exact im_nil | refine im_cons rfl (.val _) ?_ | refine im_cons rfl (.ints _) ?_ | refine im_cons rfl (.intss _) ?_ | refine im_cons rfl (.sli rfl) ?_ | refine im_cons rfl (.sls rfl) ?_ | refine im_cons rfl (.orow rfl) ?_ | refine im_cons rfl (.osub rfl (by simp; omega)) ?_ | refine im_cons rfl (.nil) ?_ | refine im_cons rfl (.nils) ?_ | refine im_cons rfl (im_agg2 (.val _) (.ints _)) ?_ | refine im_cons rfl (im_agg2 (.val _) (.sli rfl)) ?_ | refine im_cons rfl (im_agg2 (.val _) (.nil)) ?_ | refine im_cons rfl (im_agg2 (.ints _) (.intss _)) ?_ | refine im_cons rfl (im_agg2 (.ints _) (.sls rfl)) ?_ | refine im_cons rfl (im_agg2 (.sli rfl) (.intss _)) ?_ | refine im_cons rfl (im_agg2 (.sli rfl) (.sls rfl)) ?_ | refine im_cons rfl (im_agg1 (.ints _)) ?_ | refine im_cons rfl (im_agg1 (.sli rfl)) ?_ | refine im_cons rfl (im_agg1 (.intss _)) ?_ | refine im_cons rfl (im_agg1 (.sls rfl)) ?_ | refine im_cons rfl (im_agg1 (.nil)) ?_ | refine im_cons rfl (im_agg1 (.nils)) ?_)); done))
  | ((first | apply w_lss | apply w_leq | apply w_gtr | apply w_geq | apply w_eql | apply w_neq | apply w_add | apply w_sub | apply w_mul | apply w_idx | apply w_ld | apply w_fld | apply w_fa | apply w_extv | apply w_min | apply w_max | apply w_slhi | apply w_sllo | apply w_bs2); iterate 3 exact rfl)
  | ((first | apply w_eqlb | apply w_neqb | apply w_idxs | apply w_lds | apply w_ext); iterate 3 exact rfl)
  | (apply w_rem; exact rfl; exact rfl; exact rfl; (focus (omega; done)); (focus (omega; done)))
  | (apply w_quo; exact rfl; exact rfl; exact rfl; (focus (omega; done)); (focus (omega; done)))
  | (apply w_remT; exact rfl; exact rfl; exact rfl)
  | (apply w_quoT; exact rfl; exact rfl; exact rfl)
  | ((first | apply w_not | apply w_neg | apply w_conv | apply w_build0 | apply w_bs1 | apply w_boxa); iterate 2 exact rfl)
  | (apply w_idxo; exact rfl; exact rfl; (first | exact .sli rfl | exact .sls rfl | exact .slr rfl); exact rfl)
  | ((first | apply w_idxr | apply w_ldr); iterate 4 exact rfl)
  | (apply w_ldo; iterate 4 exact rfl)
  | (apply w_ldls; iterate 4 exact rfl)
  | (apply w_ldrp; iterate 4 exact rfl)
  | (apply w_ldb; iterate 5 exact rfl)
  | (apply w_ldst; iterate 5 exact rfl)
  | ((first | apply w_sllh | apply w_stbi); iterate 4 exact rfl)
  | ((first | apply w_oslo | apply w_oshi | apply w_stbii); iterate 4 exact rfl)
  | (apply w_copy; exact rfl; (first | exact .own rfl rfl rfl | exact .osub); exact rfl; rotate_left 1; exact rfl; (first | exact .ints _ | exact .sli rfl | exact .orow rfl | exact .nil | exact .osub rfl (by simp; omega)))
  | (apply w_build1; exact rfl; exact rfl; (first | exact one_val rfl rfl | exact one_ints | exact one_intss | exact one_own rfl True.intro))
  | (apply w_build2; exact rfl; exact rfl; exact rfl; (first | exact one_val rfl rfl | exact one_ints | exact one_intss | exact one_own rfl True.intro); (first | exact one_val rfl rfl | exact one_ints | exact one_intss | exact one_own rfl True.intro))
  | (apply w_bs0; iterate 1 exact rfl)
  | (apply w_appn; exact rfl; exact rfl; (first | exact .ints _ | exact .sli rfl | exact .orow rfl | exact .nil | exact .osub rfl (by simp; omega)); exact rfl)
  | (apply w_app; exact rfl; exact rfl; exact rfl; exact rfl; (first | exact .ints _ | exact .sli rfl | exact .orow rfl | exact .nil | exact .osub rfl (by simp; omega)); rotate_left 1; simp only [Env.mp, List.map_cons, List.map_nil, List.set_cons_zero, List.set_cons_succ, AV.kill, AV.kill1, AO.kill, AV.noRow, AV.noRow1, AO.via, reduceIte, Nat.reduceEqDiff, Nat.reduceLT, Env.up, Nat.zero_ne_one, Nat.one_ne_zero, Nat.reduceAdd, List.cons_append, List.nil_append]; rotate_left 1)
  | (apply w_alst; iterate 2 exact rfl)
  | (apply w_alone; iterate 3 exact rfl)
  | (apply w_mki; exact rfl; exact rfl; rotate_left 3; exact rfl; rotate_left 1)
  | (apply w_mkr; exact rfl; exact rfl; rotate_left 3; exact rfl; rotate_left 1)
  | (apply w_strow; exact rfl; exact rfl; rotate_left 1; exact rfl; exact rfl; exact rfl; exact rfl; simp only [Env.mp, List.map_cons, List.map_nil, List.set_cons_zero, List.set_cons_succ, AV.kill, AV.kill1, AO.kill, AV.noRow, AV.noRow1, AO.via, reduceIte, Nat.reduceEqDiff, Nat.reduceLT, Env.up, Nat.zero_ne_one, Nat.one_ne_zero, Nat.reduceAdd, List.cons_append, List.nil_append]; rotate_left 1)
  | (apply w_sti; exact rfl; exact rfl; rotate_left 1; exact rfl; rotate_left 2)
  | (apply w_stst; iterate 5 exact rfl)
  | (apply w_stbv; iterate 6 exact rfl)
  | (apply w_stbo; exact rfl; exact rfl; exact rfl; exact rfl; exact rfl; exact True.intro)
  | ((apply AOps.splitB; exact rfl; exact rfl) <;> intro h)
  | apply AllOf.nil
  | (apply AllOf.cons; exact rfl)
  | (apply AAny.take; exact rfl; exact rfl; kernel_rfl; kernel_rfl)
  | (apply AAny.all; exact rfl)
  | (apply AAny.done; exact rfl)
  | (apply inI_of <;> omega)
  | omega
  | (simp <;> omega))
  unfold mid at ha hb
  refine AWp.loop (ι := Int × Int) (fun s => ⟨16, [(0, .i s.1), (1, .i s.2)]⟩) (fun _ => []) (fun s => 0 ≤ s.1 ∧ 0 ≤ s.2 ∧ s.1 ≤ 4611686018427387904 ∧ s.2 ≤ 4611686018427387904 ∧ Int.gcd s.1 s.2 = Int.gcd a b) (fun s => s.2.toNat) (a.natAbs, b.natAbs) ⟨by simp, by simp, by simp; omega, by simp; omega, by simp [Int.gcd]⟩ ⟨lee rfl (by (repeat (first | exact le_nil | refine le_eq rfl rfl ?_ | refine le_eq rfl (congrArg AV.i (by omega)) ?_))), by (repeat (first | exact lo_nil | refine lo_dead ?_ | refine lo_eq rfl ?_)), rfl, rfl⟩ ?_
  rintro ⟨x, y⟩ ⟨h0, h1, h2, h3, h4⟩
  simp only at h0 h1 h2 h3 h4
  repeat' (first
  | (apply AOps.nil; try simp only [List.nil_append, List.cons_append, List.set_cons_zero, List.set_cons_succ, List.length_cons, List.length_nil, Nat.reduceAdd, AV.sh, AV.sh1, AV.sh0, AO.sh, List.map_cons, List.map_nil, Nat.zero_add, Nat.add_zero, setAll])
  | ((apply AOps.splitP; exact rfl; exact rfl) <;> intro h)
  | ((apply AOps.splitN; exact rfl; exact rfl) <;> intro h)
  | (apply w_move; exact rfl; exact rfl)
  | (apply w_assign; exact rfl; exact rfl)
  | apply AWp.seq
  | apply AWp.region
  | ((apply AWp.condP; exact rfl) <;> intro h)
  | ((apply AWp.condN; exact rfl) <;> intro h)
  | (apply AWp.condT; exact rfl)
  | (apply AWp.condF; exact rfl)
  | ((apply AWp.condB; exact rfl) <;> intro h)
  | apply AWp.block
  | apply AWp.ret
  | apply AWp.exit
  | apply AWp.skip
  | (apply AWp.regionQ; kernel_rfl; kernel_rfl)
  | (apply if_pos'; exact rfl)
  | (apply if_neg'; decide)
  | (apply w_skip; exact rfl)
  | (apply w_pickT; exact rfl; exact rfl; exact rfl)
  | (apply w_pickF; exact rfl; exact rfl; exact rfl)
  | (apply w_len; exact rfl; exact rfl; first | exact .ints _ | exact .intss _ | exact .sli rfl | exact .sls rfl | exact .slr rfl | exact .orow rfl | exact .nil)
  | ((first | apply w_lss | apply w_leq | apply w_gtr | apply w_geq | apply w_eql | apply w_neq | apply w_add | apply w_sub | apply w_mul | apply w_idx | apply w_ld | apply w_fld | apply w_fa | apply w_extv | apply w_min | apply w_max | apply w_slhi | apply w_sllo | apply w_bs2); iterate 3 exact rfl)
  | ((first | apply w_eqlb | apply w_neqb | apply w_idxs | apply w_lds | apply w_ext); iterate 3 exact rfl)
  | (apply w_rem; exact rfl; exact rfl; exact rfl; (focus (omega; done)); (focus (omega; done)))
  | (apply w_quo; exact rfl; exact rfl; exact rfl; (focus (omega; done)); (focus (omega; done)))
  | (apply w_remT; exact rfl; exact rfl; exact rfl)
  | (apply w_quoT; exact rfl; exact rfl; exact rfl)
  | ((first | apply w_not | apply w_neg | apply w_conv | apply w_build0 | apply w_bs1 | apply w_boxa); iterate 2 exact rfl)
  | (apply w_idxo; exact rfl; exact rfl; (first | exact .sli rfl | exact .sls rfl | exact .slr rfl); exact rfl)
  | ((first | apply w_idxr | apply w_ldr); iterate 4 exact rfl)
  | (apply w_ldo; iterate 4 exact rfl)
  | (apply w_ldls; iterate 4 exact rfl)
  | (apply w_ldrp; iterate 4 exact rfl)
  | (apply w_ldb; iterate 5 exact rfl)
  | (apply w_ldst; iterate 5 exact rfl)
  | ((first | apply w_sllh | apply w_stbi); iterate 4 exact rfl)
  | ((first | apply w_oslo | apply w_oshi | apply w_stbii); iterate 4 exact rfl)
  | (apply w_copy; exact rfl; (first | exact .own rfl rfl rfl | exact .osub); exact rfl; rotate_left 1; exact rfl; (first | exact .ints _ | exact .sli rfl | exact .orow rfl | exact .nil | exact .osub rfl (by simp; omega)))
  | (apply w_build1; exact rfl; exact rfl; (first | exact one_val rfl rfl | exact one_ints | exact one_intss | exact one_own rfl True.intro))
  | (apply w_build2; exact rfl; exact rfl; exact rfl; (first | exact one_val rfl rfl | exact one_ints | exact one_intss | exact one_own rfl True.intro); (first | exact one_val rfl rfl | exact one_ints | exact one_intss | exact one_own rfl True.intro))
  | (apply w_bs0; iterate 1 exact rfl)
  | (apply w_appn; exact rfl; exact rfl; (first | exact .ints _ | exact .sli rfl | exact .orow rfl | exact .nil | exact .osub rfl (by simp; omega)); exact rfl)
  | (apply w_app; exact rfl; exact rfl; exact rfl; exact rfl; (first | exact .ints _ | exact .sli rfl | exact .orow rfl | exact .nil | exact .osub rfl (by simp; omega)); rotate_left 1; simp only [Env.mp, List.map_cons, List.map_nil, List.set_cons_zero, List.set_cons_succ, AV.kill, AV.kill1, AO.kill, AV.noRow, AV.noRow1, AO.via, reduceIte, Nat.reduceEqDiff, Nat.reduceLT, Env.up, Nat.zero_ne_one, Nat.one_ne_zero, Nat.reduceAdd, List.cons_append, List.nil_append]; rotate_left 1)
  | (apply w_alst; iterate 2 exact rfl)
  | (apply w_alone; iterate 3 exact rfl)
  | (apply w_mki; exact rfl; exact rfl; rotate_left 3; exact rfl; rotate_left 1)
  | (apply w_mkr; exact rfl; exact rfl; rotate_left 3; exact rfl; rotate_left 1)
  | (apply w_strow; exact rfl; exact rfl; rotate_left 1; exact rfl; exact rfl; exact rfl; exact rfl; simp only [Env.mp, List.map_cons, List.map_nil, List.set_cons_zero, List.set_cons_succ, AV.kill, AV.kill1, AO.kill, AV.noRow, AV.noRow1, AO.via, reduceIte, Nat.reduceEqDiff, Nat.reduceLT, Env.up, Nat.zero_ne_one, Nat.one_ne_zero, Nat.reduceAdd, List.cons_append, List.nil_append]; rotate_left 1)
  | (apply w_sti; exact rfl; exact rfl; rotate_left 1; exact rfl; rotate_left 2)
  | (apply w_stst; iterate 5 exact rfl)
  | (apply w_stbv; iterate 6 exact rfl)
  | (apply w_stbo; exact rfl; exact rfl; exact rfl; exact rfl; exact rfl; exact True.intro)
  | ((apply AOps.splitB; exact rfl; exact rfl) <;> intro h)
  | apply AllOf.nil
  | (apply AllOf.cons; exact rfl)
  | (apply AAny.take; exact rfl; exact rfl; kernel_rfl; kernel_rfl)
  | (apply AAny.all; exact rfl)
  | (apply AAny.done; exact rfl)
  | (apply inI_of <;> omega)
  | omega
  | (simp <;> omega))
  · have hlt := Int.emod_lt_of_pos x h
    have hge := Int.emod_nonneg x (show y ≠ 0 by omega)
    exact ⟨(y, x % y), ⟨h1, hge, h3, by simp only; omega, by simp only; rw [gcd_step x y h0 h, h4]⟩, by simp only; omega, ⟨lee rfl (by (repeat (first | exact le_nil | refine le_eq rfl rfl ?_ | refine le_eq rfl (congrArg AV.i (by omega)) ?_))), by (repeat (first | exact lo_nil | refine lo_dead ?_ | refine lo_eq rfl ?_)), rfl, rfl⟩⟩
  · have e : y = 0 := by omega
    subst e
    exact .int Try.results34 rfl (by rw [← h4]; simp; omega)

theorem l01Gcd_c (a b : Int) (ha : mid a) (hb : mid b) : AFnV Try.prog 31 [.i a, .i b] (.int .i64 (Int.gcd a b)) := by
  unfold mid at ha hb
  (refine AFnV.start Try.func31 Try.ntmps31 rfl (by kernel_rfl) fun hk => ?_; simp only [Env.start, enumF, List.length_cons, List.length_nil, Nat.reduceAdd, Nat.reduceSub, List.cons_append, List.nil_append])
  repeat' (first
  | (apply AOps.nil; try simp only [List.nil_append, List.cons_append, List.set_cons_zero, List.set_cons_succ, List.length_cons, List.length_nil, Nat.reduceAdd, AV.sh, AV.sh1, AV.sh0, AO.sh, List.map_cons, List.map_nil, Nat.zero_add, Nat.add_zero, setAll])
  | ((apply AOps.splitP; exact rfl; exact rfl) <;> intro h)
  | ((apply AOps.splitN; exact rfl; exact rfl) <;> intro h)
  | (apply w_move; exact rfl; exact rfl)
  | (apply w_assign; exact rfl; exact rfl)
  | apply AWp.seq
  | apply AWp.region
  | ((apply AWp.condP; exact rfl) <;> intro h)
  | ((apply AWp.condN; exact rfl) <;> intro h)
  | (apply AWp.condT; exact rfl)
  | (apply AWp.condF; exact rfl)
  | ((apply AWp.condB; exact rfl) <;> intro h)
  | apply AWp.block
  | apply AWp.ret
  | apply AWp.exit
  | apply AWp.skip
  | (apply AWp.regionQ; kernel_rfl; kernel_rfl)
  | (apply if_pos'; exact rfl)
  | (apply if_neg'; decide)
  | (apply w_skip; exact rfl)
  | (apply w_pickT; exact rfl; exact rfl; exact rfl)
  | (apply w_pickF; exact rfl; exact rfl; exact rfl)
  | (apply w_len; exact rfl; exact rfl; first | exact .ints _ | exact .intss _ | exact .sli rfl | exact .sls rfl | exact .slr rfl | exact .orow rfl | exact .nil)
  | ((first | apply w_lss | apply w_leq | apply w_gtr | apply w_geq | apply w_eql | apply w_neq | apply w_add | apply w_sub | apply w_mul | apply w_idx | apply w_ld | apply w_fld | apply w_fa | apply w_extv | apply w_min | apply w_max | apply w_slhi | apply w_sllo | apply w_bs2); iterate 3 exact rfl)
  | ((first | apply w_eqlb | apply w_neqb | apply w_idxs | apply w_lds | apply w_ext); iterate 3 exact rfl)
  | (apply w_rem; exact rfl; exact rfl; exact rfl; (focus (omega; done)); (focus (omega; done)))
  | (apply w_quo; exact rfl; exact rfl; exact rfl; (focus (omega; done)); (focus (omega; done)))
  | (apply w_remT; exact rfl; exact rfl; exact rfl)
  | (apply w_quoT; exact rfl; exact rfl; exact rfl)
  | ((first | apply w_not | apply w_neg | apply w_conv | apply w_build0 | apply w_bs1 | apply w_boxa); iterate 2 exact rfl)
  | (apply w_idxo; exact rfl; exact rfl; (first | exact .sli rfl | exact .sls rfl | exact .slr rfl); exact rfl)
  | ((first | apply w_idxr | apply w_ldr); iterate 4 exact rfl)
  | (apply w_ldo; iterate 4 exact rfl)
  | (apply w_ldls; iterate 4 exact rfl)
  | (apply w_ldrp; iterate 4 exact rfl)
  | (apply w_ldb; iterate 5 exact rfl)
  | (apply w_ldst; iterate 5 exact rfl)
  | ((first | apply w_sllh | apply w_stbi); iterate 4 exact rfl)
  | ((first | apply w_oslo | apply w_oshi | apply w_stbii); iterate 4 exact rfl)
  | (apply w_copy; exact rfl; (first | exact .own rfl rfl rfl | exact .osub); exact rfl; rotate_left 1; exact rfl; (first | exact .ints _ | exact .sli rfl | exact .orow rfl | exact .nil | exact .osub rfl (by simp; omega)))
  | (apply w_build1; exact rfl; exact rfl; (first | exact one_val rfl rfl | exact one_ints | exact one_intss | exact one_own rfl True.intro))
  | (apply w_build2; exact rfl; exact rfl; exact rfl; (first | exact one_val rfl rfl | exact one_ints | exact one_intss | exact one_own rfl True.intro); (first | exact one_val rfl rfl | exact one_ints | exact one_intss | exact one_own rfl True.intro))
  | (apply w_bs0; iterate 1 exact rfl)
  | (apply w_appn; exact rfl; exact rfl; (first | exact .ints _ | exact .sli rfl | exact .orow rfl | exact .nil | exact .osub rfl (by simp; omega)); exact rfl)
  | (apply w_app; exact rfl; exact rfl; exact rfl; exact rfl; (first | exact .ints _ | exact .sli rfl | exact .orow rfl | exact .nil | exact .osub rfl (by simp; omega)); rotate_left 1; simp only [Env.mp, List.map_cons, List.map_nil, List.set_cons_zero, List.set_cons_succ, AV.kill, AV.kill1, AO.kill, AV.noRow, AV.noRow1, AO.via, reduceIte, Nat.reduceEqDiff, Nat.reduceLT, Env.up, Nat.zero_ne_one, Nat.one_ne_zero, Nat.reduceAdd, List.cons_append, List.nil_append]; rotate_left 1)
  | (apply w_alst; iterate 2 exact rfl)
  | (apply w_alone; iterate 3 exact rfl)
  | (apply w_mki; exact rfl; exact rfl; rotate_left 3; exact rfl; rotate_left 1)
  | (apply w_mkr; exact rfl; exact rfl; rotate_left 3; exact rfl; rotate_left 1)
  | (apply w_strow; exact rfl; exact rfl; rotate_left 1; exact rfl; exact rfl; exact rfl; exact rfl; simp only [Env.mp, List.map_cons, List.map_nil, List.set_cons_zero, List.set_cons_succ, AV.kill, AV.kill1, AO.kill, AV.noRow, AV.noRow1, AO.via, reduceIte, Nat.reduceEqDiff, Nat.reduceLT, Env.up, Nat.zero_ne_one, Nat.one_ne_zero, Nat.reduceAdd, List.cons_append, List.nil_append]; rotate_left 1)
  | (apply w_sti; exact rfl; exact rfl; rotate_left 1; exact rfl; rotate_left 2)
  | (apply w_stst; iterate 5 exact rfl)
  | (apply w_stbv; iterate 6 exact rfl)
  | (apply w_stbo; exact rfl; exact rfl; exact rfl; exact rfl; exact rfl; exact True.intro)
  | ((apply AOps.splitB; exact rfl; exact rfl) <;> intro h)
  | apply AllOf.nil
  | (apply AllOf.cons; exact rfl)
  | (apply AAny.take; exact rfl; exact rfl; kernel_rfl; kernel_rfl)
  | (apply AAny.all; exact rfl)
  | (apply AAny.done; exact rfl)
  | (apply inI_of <;> omega)
  | omega
  | (simp <;> omega))
  all_goals refine AWp.loop (ι := Int × Int) (fun s => ⟨22, [(0, .i s.1), (1, .i s.2)]⟩) (fun _ => []) (fun s => 0 ≤ s.1 ∧ 0 ≤ s.2 ∧ s.1 ≤ 4611686018427387904 ∧ s.2 ≤ 4611686018427387904 ∧ Int.gcd s.1 s.2 = Int.gcd a b) (fun s => s.2.toNat) (a.natAbs, b.natAbs) ⟨by simp, by simp, by simp; omega, by simp; omega, by simp [Int.gcd]⟩ ⟨lee rfl (by (repeat (first | exact le_nil | refine le_eq rfl rfl ?_ | refine le_eq rfl (congrArg AV.i (by omega)) ?_))), by (repeat (first | exact lo_nil | refine lo_dead ?_ | refine lo_eq rfl ?_)), rfl, rfl⟩ ?_
  all_goals rintro ⟨x, y⟩ ⟨h0, h1, h2, h3, h4⟩
  all_goals simp only at h0 h1 h2 h3 h4
  all_goals repeat' (first
  | (apply AOps.nil; try simp only [List.nil_append, List.cons_append, List.set_cons_zero, List.set_cons_succ, List.length_cons, List.length_nil, Nat.reduceAdd, AV.sh, AV.sh1, AV.sh0, AO.sh, List.map_cons, List.map_nil, Nat.zero_add, Nat.add_zero, setAll])
  | ((apply AOps.splitP; exact rfl; exact rfl) <;> intro h)
  | ((apply AOps.splitN; exact rfl; exact rfl) <;> intro h)
  | (apply w_move; exact rfl; exact rfl)
  | (apply w_assign; exact rfl; exact rfl)
  | apply AWp.seq
  | apply AWp.region
  | ((apply AWp.condP; exact rfl) <;> intro h)
  | ((apply AWp.condN; exact rfl) <;> intro h)
  | (apply AWp.condT; exact rfl)
  | (apply AWp.condF; exact rfl)
  | ((apply AWp.condB; exact rfl) <;> intro h)
  | apply AWp.block
  | apply AWp.ret
  | apply AWp.exit
  | apply AWp.skip
  | (apply AWp.regionQ; kernel_rfl; kernel_rfl)
  | (apply if_pos'; exact rfl)
  | (apply if_neg'; decide)
  | (apply w_skip; exact rfl)
  | (apply w_pickT; exact rfl; exact rfl; exact rfl)
  | (apply w_pickF; exact rfl; exact rfl; exact rfl)
  | (apply w_len; exact rfl; exact rfl; first | exact .ints _ | exact .intss _ | exact .sli rfl | exact .sls rfl | exact .slr rfl | exact .orow rfl | exact .nil)
  | ((first | apply w_lss | apply w_leq | apply w_gtr | apply w_geq | apply w_eql | apply w_neq | apply w_add | apply w_sub | apply w_mul | apply w_idx | apply w_ld | apply w_fld | apply w_fa | apply w_extv | apply w_min | apply w_max | apply w_slhi | apply w_sllo | apply w_bs2); iterate 3 exact rfl)
  | ((first | apply w_eqlb | apply w_neqb | apply w_idxs | apply w_lds | apply w_ext); iterate 3 exact rfl)
  | (apply w_rem; exact rfl; exact rfl; exact rfl; (focus (omega; done)); (focus (omega; done)))
  | (apply w_quo; exact rfl; exact rfl; exact rfl; (focus (omega; done)); (focus (omega; done)))
  | (apply w_remT; exact rfl; exact rfl; exact rfl)
  | (apply w_quoT; exact rfl; exact rfl; exact rfl)
  | ((first | apply w_not | apply w_neg | apply w_conv | apply w_build0 | apply w_bs1 | apply w_boxa); iterate 2 exact rfl)
  | (apply w_idxo; exact rfl; exact rfl; (first | exact .sli rfl | exact .sls rfl | exact .slr rfl); exact rfl)
  | ((first | apply w_idxr | apply w_ldr); iterate 4 exact rfl)
  | (apply w_ldo; iterate 4 exact rfl)
  | (apply w_ldls; iterate 4 exact rfl)
  | (apply w_ldrp; iterate 4 exact rfl)
  | (apply w_ldb; iterate 5 exact rfl)
  | (apply w_ldst; iterate 5 exact rfl)
  | ((first | apply w_sllh | apply w_stbi); iterate 4 exact rfl)
  | ((first | apply w_oslo | apply w_oshi | apply w_stbii); iterate 4 exact rfl)
  | (apply w_copy; exact rfl; (first | exact .own rfl rfl rfl | exact .osub); exact rfl; rotate_left 1; exact rfl; (first | exact .ints _ | exact .sli rfl | exact .orow rfl | exact .nil | exact .osub rfl (by simp; omega)))
  | (apply w_build1; exact rfl; exact rfl; (first | exact one_val rfl rfl | exact one_ints | exact one_intss | exact one_own rfl True.intro))
  | (apply w_build2; exact rfl; exact rfl; exact rfl; (first | exact one_val rfl rfl | exact one_ints | exact one_intss | exact one_own rfl True.intro); (first | exact one_val rfl rfl | exact one_ints | exact one_intss | exact one_own rfl True.intro))
  | (apply w_bs0; iterate 1 exact rfl)
  | (apply w_appn; exact rfl; exact rfl; (first | exact .ints _ | exact .sli rfl | exact .orow rfl | exact .nil | exact .osub rfl (by simp; omega)); exact rfl)
  | (apply w_app; exact rfl; exact rfl; exact rfl; exact rfl; (first | exact .ints _ | exact .sli rfl | exact .orow rfl | exact .nil | exact .osub rfl (by simp; omega)); rotate_left 1; simp only [Env.mp, List.map_cons, List.map_nil, List.set_cons_zero, List.set_cons_succ, AV.kill, AV.kill1, AO.kill, AV.noRow, AV.noRow1, AO.via, reduceIte, Nat.reduceEqDiff, Nat.reduceLT, Env.up, Nat.zero_ne_one, Nat.one_ne_zero, Nat.reduceAdd, List.cons_append, List.nil_append]; rotate_left 1)
  | (apply w_alst; iterate 2 exact rfl)
  | (apply w_alone; iterate 3 exact rfl)
  | (apply w_mki; exact rfl; exact rfl; rotate_left 3; exact rfl; rotate_left 1)
  | (apply w_mkr; exact rfl; exact rfl; rotate_left 3; exact rfl; rotate_left 1)
  | (apply w_strow; exact rfl; exact rfl; rotate_left 1; exact rfl; exact rfl; exact rfl; exact rfl; simp only [Env.mp, List.map_cons, List.map_nil, List.set_cons_zero, List.set_cons_succ, AV.kill, AV.kill1, AO.kill, AV.noRow, AV.noRow1, AO.via, reduceIte, Nat.reduceEqDiff, Nat.reduceLT, Env.up, Nat.zero_ne_one, Nat.one_ne_zero, Nat.reduceAdd, List.cons_append, List.nil_append]; rotate_left 1)
  | (apply w_sti; exact rfl; exact rfl; rotate_left 1; exact rfl; rotate_left 2)
  | (apply w_stst; iterate 5 exact rfl)
  | (apply w_stbv; iterate 6 exact rfl)
  | (apply w_stbo; exact rfl; exact rfl; exact rfl; exact rfl; exact rfl; exact True.intro)
  | ((apply AOps.splitB; exact rfl; exact rfl) <;> intro h)
  | apply AllOf.nil
  | (apply AllOf.cons; exact rfl)
  | (apply AAny.take; exact rfl; exact rfl; kernel_rfl; kernel_rfl)
  | (apply AAny.all; exact rfl)
  | (apply AAny.done; exact rfl)
  | (apply inI_of <;> omega)
  | omega
  | (simp <;> omega))
  all_goals first
    | (have hlt := Int.emod_lt_of_pos x h
       have hge := Int.emod_nonneg x (show y ≠ 0 by omega)
       exact ⟨(y, x % y), ⟨h1, hge, h3, by simp only; omega, by simp only; rw [gcd_step x y h0 h, h4]⟩, by simp only; omega, ⟨lee rfl (by (repeat (first | exact le_nil | refine le_eq rfl rfl ?_ | refine le_eq rfl (congrArg AV.i (by omega)) ?_))), by (repeat (first | exact lo_nil | refine lo_dead ?_ | refine lo_eq rfl ?_)), rfl, rfl⟩⟩)
    | (have e : y = 0 := by omega
       subst e
       exact .int Try.results31 rfl (by rw [← h4]; simp; omega))
end Go.Proofs.Ytpllbdjobmgikaa
/-
  Branches: whether a value is one. No condition.
-/
namespace Go.Proofs.Ytpllbdjobmgikaa
open Go Go.RowKit
attribute [local irreducible] AWp AOps ResIs Ret1 QOp LOp COp AFnV AFn Imms LeE LeO
set_option maxHeartbeats 1000000
set_option linter.unusedSimpArgs false
set_option linter.unusedVariables false

/-- The greatest common divisor of the first k entries. -/
def gd (xs : List Int) : Nat → Int
  | 0 => 0
  | k + 1 => (Int.gcd (gd xs k) (geti xs k) : Int)
def Asc (xs : List Int) : Prop := ∀ i : Nat, 0 < i → i < xs.length → geti xs ((i : Int) - 1) < geti xs i
def Fal (xs : List Int) : Prop := (∀ i : Nat, 0 < i → i < xs.length → gd xs (i + 1) < gd xs i) ∧ gd xs xs.length = 1
noncomputable instance (xs : List Int) : Decidable (Asc xs) := Classical.propDecidable _
noncomputable instance (xs : List Int) : Decidable (Fal xs) := Classical.propDecidable _
noncomputable def isBr (xs : List Int) : Bool := decide ((0 : Int) < xs.length) && decide (1 ≤ geti xs 0 ∧ geti xs 0 ≤ 64) && decide (Asc xs) && withinL xs 1 2000 && decide (Fal xs)

theorem ascends_c (xs : List Int) : AFnV Try.prog 52 [.ints xs] (.bool (decide (Asc xs))) := by
  (refine AFnV.start Try.func52 Try.ntmps52 rfl (by kernel_rfl) fun hk0 => ?_; simp only [Env.start, enumF, List.length_cons, List.length_nil, Nat.reduceAdd, Nat.reduceSub, List.cons_append, List.nil_append])
  obtain ⟨hk, hl⟩ : ArgOk (.ints xs) := hk0 _ (by simp)
  repeat' (first
  | (apply AOps.nil; try simp only [List.nil_append, List.cons_append, List.set_cons_zero, List.set_cons_succ, List.length_cons, List.length_nil, Nat.reduceAdd, AV.sh, AV.sh1, AV.sh0, AO.sh, List.map_cons, List.map_nil, Nat.zero_add, Nat.add_zero, setAll])
  | ((apply AOps.splitP; exact rfl; exact rfl) <;> intro h)
  | ((apply AOps.splitN; exact rfl; exact rfl) <;> intro h)
  | (apply w_move; exact rfl; exact rfl)
  | (apply w_assign; exact rfl; exact rfl)
  | apply AWp.seq
  | apply AWp.region
  | ((apply AWp.condP; exact rfl) <;> intro h)
  | ((apply AWp.condN; exact rfl) <;> intro h)
  | (apply AWp.condT; exact rfl)
  | (apply AWp.condF; exact rfl)
  | ((apply AWp.condB; exact rfl) <;> intro h)
  | apply AWp.block
  | apply AWp.ret
  | apply AWp.exit
  | apply AWp.skip
  | (apply AWp.regionQ; kernel_rfl; kernel_rfl)
  | (apply if_pos'; exact rfl)
  | (apply if_neg'; decide)
  | (apply w_skip; exact rfl)
  | (apply w_pickT; exact rfl; exact rfl; exact rfl)
  | (apply w_pickF; exact rfl; exact rfl; exact rfl)
  | (apply w_len; exact rfl; exact rfl; first | exact .ints _ | exact .intss _ | exact .sli rfl | exact .sls rfl | exact .slr rfl | exact .orow rfl | exact .nil)
  | ((first | apply w_lss | apply w_leq | apply w_gtr | apply w_geq | apply w_eql | apply w_neq | apply w_add | apply w_sub | apply w_mul | apply w_idx | apply w_ld | apply w_fld | apply w_fa | apply w_extv | apply w_min | apply w_max | apply w_slhi | apply w_sllo | apply w_bs2); iterate 3 exact rfl)
  | ((first | apply w_eqlb | apply w_neqb | apply w_idxs | apply w_lds | apply w_ext); iterate 3 exact rfl)
  | (apply w_rem; exact rfl; exact rfl; exact rfl; (focus (omega; done)); (focus (omega; done)))
  | (apply w_quo; exact rfl; exact rfl; exact rfl; (focus (omega; done)); (focus (omega; done)))
  | (apply w_remT; exact rfl; exact rfl; exact rfl)
  | (apply w_quoT; exact rfl; exact rfl; exact rfl)
  | ((first | apply w_not | apply w_neg | apply w_conv | apply w_build0 | apply w_bs1 | apply w_boxa); iterate 2 exact rfl)
  | (apply w_idxo; exact rfl; exact rfl; (first | exact .sli rfl | exact .sls rfl | exact .slr rfl); exact rfl)
  | ((first | apply w_idxr | apply w_ldr); iterate 4 exact rfl)
  | (apply w_ldo; iterate 4 exact rfl)
  | (apply w_ldls; iterate 4 exact rfl)
  | (apply w_ldrp; iterate 4 exact rfl)
  | (apply w_ldb; iterate 5 exact rfl)
  | (apply w_ldst; iterate 5 exact rfl)
  | ((first | apply w_sllh | apply w_stbi); iterate 4 exact rfl)
  | ((first | apply w_oslo | apply w_oshi | apply w_stbii); iterate 4 exact rfl)
  | (apply w_build1; exact rfl; exact rfl; (first | exact one_val rfl rfl | exact one_ints | exact one_intss | exact one_own rfl True.intro))
  | (apply w_build2; exact rfl; exact rfl; exact rfl; (first | exact one_val rfl rfl | exact one_ints | exact one_intss | exact one_own rfl True.intro); (first | exact one_val rfl rfl | exact one_ints | exact one_intss | exact one_own rfl True.intro))
  | (apply w_bs0; iterate 1 exact rfl)
  | (apply w_appn; exact rfl; exact rfl; (first | exact .ints _ | exact .sli rfl | exact .orow rfl | exact .nil | exact .osub rfl (by simp; omega)); exact rfl)
  | (apply w_app; exact rfl; exact rfl; exact rfl; exact rfl; (first | exact .ints _ | exact .sli rfl | exact .orow rfl | exact .nil | exact .osub rfl (by simp; omega)); rotate_left 1; simp only [Env.mp, List.map_cons, List.map_nil, List.set_cons_zero, List.set_cons_succ, AV.kill, AV.kill1, AO.kill, AV.noRow, AV.noRow1, AO.via, reduceIte, Nat.reduceEqDiff, Nat.reduceLT, Env.up, Nat.zero_ne_one, Nat.one_ne_zero, Nat.reduceAdd, List.cons_append, List.nil_append]; rotate_left 1)
  | (apply w_alst; iterate 2 exact rfl)
  | (apply w_alone; iterate 3 exact rfl)
  | (apply w_mki; exact rfl; exact rfl; rotate_left 3; exact rfl; rotate_left 1)
  | (apply w_sti; exact rfl; exact rfl; rotate_left 1; exact rfl; rotate_left 2)
  | (apply w_stst; iterate 5 exact rfl)
  | (apply w_stbv; iterate 6 exact rfl)
  | (apply w_stbo; exact rfl; exact rfl; exact rfl; exact rfl; exact rfl; exact True.intro)
  | ((apply AOps.splitB; exact rfl; exact rfl) <;> intro h)
  | apply AllOf.nil
  | (apply AllOf.cons; exact rfl)
  | (apply AAny.take; exact rfl; exact rfl; kernel_rfl; kernel_rfl)
  | (apply AAny.all; exact rfl)
  | (apply AAny.done; exact rfl)
  | (apply inI_of <;> omega)
  | omega
  | (simp <;> omega))
  refine AWp.loop (ι := Nat) (fun i => ⟨20, [(0, .ints xs), (3, .i i)]⟩) (fun _ => []) (fun i => 1 ≤ i ∧ (i ≤ xs.length ∨ i = 1) ∧ ∀ j : Nat, 0 < j → j < i → j < xs.length → geti xs ((j : Int) - 1) < geti xs j) (fun i => xs.length - i) 1 ⟨by omega, by omega, fun j h1 h2 => by omega⟩ ⟨lee rfl (by (repeat (first | exact le_nil | refine le_eq rfl rfl ?_ | refine le_eq rfl (congrArg AV.i (by omega)) ?_))), by (repeat (first | exact lo_nil | refine lo_dead ?_ | refine lo_eq rfl ?_)), rfl, rfl⟩ ?_
  rintro i ⟨h0, h1, h2⟩
  repeat' (first
  | (apply AOps.nil; try simp only [List.nil_append, List.cons_append, List.set_cons_zero, List.set_cons_succ, List.length_cons, List.length_nil, Nat.reduceAdd, AV.sh, AV.sh1, AV.sh0, AO.sh, List.map_cons, List.map_nil, Nat.zero_add, Nat.add_zero, setAll])
  | ((apply AOps.splitP; exact rfl; exact rfl) <;> intro h)
  | ((apply AOps.splitN; exact rfl; exact rfl) <;> intro h)
  | (apply w_move; exact rfl; exact rfl)
  | (apply w_assign; exact rfl; exact rfl)
  | apply AWp.seq
  | apply AWp.region
  | ((apply AWp.condP; exact rfl) <;> intro h)
  | ((apply AWp.condN; exact rfl) <;> intro h)
  | (apply AWp.condT; exact rfl)
  | (apply AWp.condF; exact rfl)
  | ((apply AWp.condB; exact rfl) <;> intro h)
  | apply AWp.block
  | apply AWp.ret
  | apply AWp.exit
  | apply AWp.skip
  | (apply AWp.regionQ; kernel_rfl; kernel_rfl)
  | (apply if_pos'; exact rfl)
  | (apply if_neg'; decide)
  | (apply w_skip; exact rfl)
  | (apply w_pickT; exact rfl; exact rfl; exact rfl)
  | (apply w_pickF; exact rfl; exact rfl; exact rfl)
  | (apply w_len; exact rfl; exact rfl; first | exact .ints _ | exact .intss _ | exact .sli rfl | exact .sls rfl | exact .slr rfl | exact .orow rfl | exact .nil)
  | ((first | apply w_lss | apply w_leq | apply w_gtr | apply w_geq | apply w_eql | apply w_neq | apply w_add | apply w_sub | apply w_mul | apply w_idx | apply w_ld | apply w_fld | apply w_fa | apply w_extv | apply w_min | apply w_max | apply w_slhi | apply w_sllo | apply w_bs2); iterate 3 exact rfl)
  | ((first | apply w_eqlb | apply w_neqb | apply w_idxs | apply w_lds | apply w_ext); iterate 3 exact rfl)
  | (apply w_rem; exact rfl; exact rfl; exact rfl; (focus (omega; done)); (focus (omega; done)))
  | (apply w_quo; exact rfl; exact rfl; exact rfl; (focus (omega; done)); (focus (omega; done)))
  | (apply w_remT; exact rfl; exact rfl; exact rfl)
  | (apply w_quoT; exact rfl; exact rfl; exact rfl)
  | ((first | apply w_not | apply w_neg | apply w_conv | apply w_build0 | apply w_bs1 | apply w_boxa); iterate 2 exact rfl)
  | (apply w_idxo; exact rfl; exact rfl; (first | exact .sli rfl | exact .sls rfl | exact .slr rfl); exact rfl)
  | ((first | apply w_idxr | apply w_ldr); iterate 4 exact rfl)
  | (apply w_ldo; iterate 4 exact rfl)
  | (apply w_ldls; iterate 4 exact rfl)
  | (apply w_ldrp; iterate 4 exact rfl)
  | (apply w_ldb; iterate 5 exact rfl)
  | (apply w_ldst; iterate 5 exact rfl)
  | ((first | apply w_sllh | apply w_stbi); iterate 4 exact rfl)
  | ((first | apply w_oslo | apply w_oshi | apply w_stbii); iterate 4 exact rfl)
  | (apply w_build1; exact rfl; exact rfl; (first | exact one_val rfl rfl | exact one_ints | exact one_intss | exact one_own rfl True.intro))
  | (apply w_build2; exact rfl; exact rfl; exact rfl; (first | exact one_val rfl rfl | exact one_ints | exact one_intss | exact one_own rfl True.intro); (first | exact one_val rfl rfl | exact one_ints | exact one_intss | exact one_own rfl True.intro))
  | (apply w_bs0; iterate 1 exact rfl)
  | (apply w_appn; exact rfl; exact rfl; (first | exact .ints _ | exact .sli rfl | exact .orow rfl | exact .nil | exact .osub rfl (by simp; omega)); exact rfl)
  | (apply w_app; exact rfl; exact rfl; exact rfl; exact rfl; (first | exact .ints _ | exact .sli rfl | exact .orow rfl | exact .nil | exact .osub rfl (by simp; omega)); rotate_left 1; simp only [Env.mp, List.map_cons, List.map_nil, List.set_cons_zero, List.set_cons_succ, AV.kill, AV.kill1, AO.kill, AV.noRow, AV.noRow1, AO.via, reduceIte, Nat.reduceEqDiff, Nat.reduceLT, Env.up, Nat.zero_ne_one, Nat.one_ne_zero, Nat.reduceAdd, List.cons_append, List.nil_append]; rotate_left 1)
  | (apply w_alst; iterate 2 exact rfl)
  | (apply w_alone; iterate 3 exact rfl)
  | (apply w_mki; exact rfl; exact rfl; rotate_left 3; exact rfl; rotate_left 1)
  | (apply w_sti; exact rfl; exact rfl; rotate_left 1; exact rfl; rotate_left 2)
  | (apply w_stst; iterate 5 exact rfl)
  | (apply w_stbv; iterate 6 exact rfl)
  | (apply w_stbo; exact rfl; exact rfl; exact rfl; exact rfl; exact rfl; exact True.intro)
  | ((apply AOps.splitB; exact rfl; exact rfl) <;> intro h)
  | apply AllOf.nil
  | (apply AllOf.cons; exact rfl)
  | (apply AAny.take; exact rfl; exact rfl; kernel_rfl; kernel_rfl)
  | (apply AAny.all; exact rfl)
  | (apply AAny.done; exact rfl)
  | (apply inI_of <;> omega)
  | omega
  | (simp <;> omega))
  · exact .bool Try.results52 rfl (decide_eq_false fun hz => by have := hz i (by omega) (by omega); omega).symm
  · refine ⟨i + 1, ⟨by omega, by omega, fun j k1 k2 k3 => ?_⟩, by omega, ⟨lee rfl (by (repeat (first | exact le_nil | refine le_eq rfl rfl ?_ | refine le_eq rfl (congrArg AV.i (by omega)) ?_))), by (repeat (first | exact lo_nil | refine lo_dead ?_ | refine lo_eq rfl ?_)), rfl, rfl⟩⟩
    by_cases e : j = i
    · subst e; omega
    · exact h2 j k1 (by omega) k3
  · exact .bool Try.results52 rfl (decide_eq_true (p := Asc xs) fun j k1 k2 => h2 j k1 (by omega) k2).symm

theorem gd_nonneg (xs : List Int) : ∀ k, 0 ≤ gd xs k
  | 0 => Int.le_refl _
  | k + 1 => Int.natCast_nonneg _
def dvs (xs : List Int) (k : Nat) : List Int := (List.range k).map fun (i : Nat) => gd xs (i + 1)
theorem dvs_len (xs : List Int) (k : Nat) : (dvs xs k).length = k := by simp [dvs]
theorem dvs_succ (xs : List Int) (k : Nat) : dvs xs k ++ [gd xs (k + 1)] = dvs xs (k + 1) := by simp [dvs, List.range_succ]
theorem dvs_get (xs : List Int) (k i : Nat) (h : i < k) : geti (dvs xs k) (i : Nat) = gd xs (i + 1) := by simp [dvs, geti, h]

/-- Entries are small. -/
def Sm (xs : List Int) : Prop := ∀ i : Int, 0 ≤ geti xs i ∧ geti xs i ≤ 2000
theorem gd_le {xs : List Int} (h : Sm xs) : ∀ k, gd xs k ≤ 2000
  | 0 => by simp [gd]
  | k + 1 => by
    have ih := gd_le h k
    have h0 := gd_nonneg xs k
    have h1 := h (k : Nat)
    rw [gd]
    by_cases e : gd xs k = 0
    · rw [e, Int.gcd_zero_left]; omega
    · have h1 : Int.gcd (gd xs k) (geti xs k) ∣ (gd xs k).natAbs := Nat.gcd_dvd_left _ _
      have := Nat.le_of_dvd (by omega) h1
      omega

theorem gd_step {xs : List Int} {k : Nat} (h : 1 ≤ gd xs k) : 1 ≤ gd xs (k + 1) ∧ gd xs (k + 1) ≤ gd xs k := by
  rw [gd]
  have h1 : Int.gcd (gd xs k) (geti xs k) ∣ (gd xs k).natAbs := Nat.gcd_dvd_left _ _
  have h2 := Nat.le_of_dvd (by omega) h1
  have h3 : 0 < Int.gcd (gd xs k) (geti xs k) := Nat.pos_of_ne_zero fun e => by rw [e] at h1; simp at h1; omega
  omega

theorem divisors_c (xs : List Int) (h : Sm xs) (hl : xs.length ≤ 100000) : AFn Try.prog 41 [.ints xs] (IsInts 2 (dvs xs xs.length)) := by
  (refine AFn.start Try.func41 Try.ntmps41 rfl (by kernel_rfl) fun hk => ?_; simp only [Env.start, enumF, List.length_cons, List.length_nil, Nat.reduceAdd, Nat.reduceSub, List.cons_append, List.nil_append])
  repeat' (first
  | (apply AOps.nil; try simp only [List.nil_append, List.cons_append, List.set_cons_zero, List.set_cons_succ, List.length_cons, List.length_nil, Nat.reduceAdd, AV.sh, AV.sh1, AV.sh0, AO.sh, List.map_cons, List.map_nil, Nat.zero_add, Nat.add_zero, setAll])
  | ((apply AOps.splitP; exact rfl; exact rfl) <;> intro h)
  | ((apply AOps.splitN; exact rfl; exact rfl) <;> intro h)
  | (apply w_move; exact rfl; exact rfl)
  | (apply w_assign; exact rfl; exact rfl)
  | apply AWp.seq
  | apply AWp.region
  | ((apply AWp.condP; exact rfl) <;> intro h)
  | ((apply AWp.condN; exact rfl) <;> intro h)
  | (apply AWp.condT; exact rfl)
  | (apply AWp.condF; exact rfl)
  | ((apply AWp.condB; exact rfl) <;> intro h)
  | apply AWp.block
  | apply AWp.ret
  | apply AWp.exit
  | apply AWp.skip
  | (apply AWp.regionQ; kernel_rfl; kernel_rfl)
  | (apply if_pos'; exact rfl)
  | (apply if_neg'; decide)
  | (apply w_skip; exact rfl)
  | (apply w_pickT; exact rfl; exact rfl; exact rfl)
  | (apply w_pickF; exact rfl; exact rfl; exact rfl)
  | (apply w_len; exact rfl; exact rfl; first | exact .ints _ | exact .intss _ | exact .sli rfl | exact .sls rfl | exact .slr rfl | exact .orow rfl | exact .nil)
  | ((first | apply w_lss | apply w_leq | apply w_gtr | apply w_geq | apply w_eql | apply w_neq | apply w_add | apply w_sub | apply w_mul | apply w_idx | apply w_ld | apply w_fld | apply w_fa | apply w_extv | apply w_min | apply w_max | apply w_slhi | apply w_sllo | apply w_bs2); iterate 3 exact rfl)
  | ((first | apply w_eqlb | apply w_neqb | apply w_idxs | apply w_lds | apply w_ext); iterate 3 exact rfl)
  | (apply w_rem; exact rfl; exact rfl; exact rfl; (focus (omega; done)); (focus (omega; done)))
  | (apply w_quo; exact rfl; exact rfl; exact rfl; (focus (omega; done)); (focus (omega; done)))
  | (apply w_remT; exact rfl; exact rfl; exact rfl)
  | (apply w_quoT; exact rfl; exact rfl; exact rfl)
  | ((first | apply w_not | apply w_neg | apply w_conv | apply w_build0 | apply w_bs1 | apply w_boxa); iterate 2 exact rfl)
  | (apply w_idxo; exact rfl; exact rfl; (first | exact .sli rfl | exact .sls rfl | exact .slr rfl); exact rfl)
  | ((first | apply w_idxr | apply w_ldr); iterate 4 exact rfl)
  | (apply w_ldo; iterate 4 exact rfl)
  | (apply w_ldls; iterate 4 exact rfl)
  | (apply w_ldrp; iterate 4 exact rfl)
  | (apply w_ldb; iterate 5 exact rfl)
  | (apply w_ldst; iterate 5 exact rfl)
  | ((first | apply w_sllh | apply w_stbi); iterate 4 exact rfl)
  | ((first | apply w_oslo | apply w_oshi | apply w_stbii); iterate 4 exact rfl)
  | (apply w_build1; exact rfl; exact rfl; (first | exact one_val rfl rfl | exact one_ints | exact one_intss | exact one_own rfl True.intro))
  | (apply w_build2; exact rfl; exact rfl; exact rfl; (first | exact one_val rfl rfl | exact one_ints | exact one_intss | exact one_own rfl True.intro); (first | exact one_val rfl rfl | exact one_ints | exact one_intss | exact one_own rfl True.intro))
  | (apply w_bs0; iterate 1 exact rfl)
  | (apply w_appn; exact rfl; exact rfl; (first | exact .ints _ | exact .sli rfl | exact .orow rfl | exact .nil | exact .osub rfl (by simp; omega)); exact rfl)
  | (apply w_app; exact rfl; exact rfl; exact rfl; exact rfl; (first | exact .ints _ | exact .sli rfl | exact .orow rfl | exact .nil | exact .osub rfl (by simp; omega)); rotate_left 1; simp only [Env.mp, List.map_cons, List.map_nil, List.set_cons_zero, List.set_cons_succ, AV.kill, AV.kill1, AO.kill, AV.noRow, AV.noRow1, AO.via, reduceIte, Nat.reduceEqDiff, Nat.reduceLT, Env.up, Nat.zero_ne_one, Nat.one_ne_zero, Nat.reduceAdd, List.cons_append, List.nil_append]; rotate_left 1)
  | (apply w_alst; iterate 2 exact rfl)
  | (apply w_alone; iterate 3 exact rfl)
  | (apply w_mki; exact rfl; exact rfl; rotate_left 3; exact rfl; rotate_left 1)
  | (apply w_sti; exact rfl; exact rfl; rotate_left 1; exact rfl; rotate_left 2)
  | (apply w_stst; iterate 5 exact rfl)
  | (apply w_stbv; iterate 6 exact rfl)
  | (apply w_stbo; exact rfl; exact rfl; exact rfl; exact rfl; exact rfl; exact True.intro)
  | ((apply AOps.splitB; exact rfl; exact rfl) <;> intro h)
  | apply AllOf.nil
  | (apply AllOf.cons; exact rfl)
  | (apply AAny.take; exact rfl; exact rfl; kernel_rfl; kernel_rfl)
  | (apply AAny.all; exact rfl)
  | (apply AAny.done; exact rfl)
  | (apply inI_of <;> omega)
  | omega
  | (simp <;> omega))
  refine AWp.loop (ι := Nat) (fun i => ⟨23, [(3, .own 0), (4, .i (gd xs i)), (8, .ints xs), (9, .i xs.length), (10, .i i)]⟩) (fun i => [.sli 2 (dvs xs i)]) (fun i => i ≤ xs.length) (fun i => xs.length - i) 0 (by omega) ⟨lee rfl (by (repeat (first | exact le_nil | refine le_eq rfl rfl ?_ | refine le_eq rfl (congrArg AV.i (by omega)) ?_))), by (repeat (first | exact lo_nil | refine lo_dead ?_ | refine lo_eq rfl ?_)), rfl, rfl⟩ ?_
  rintro i h0
  have g1 := gd_nonneg xs i
  have g2 := gd_le h i
  have g3 := h i
  have m1 : mid (gd xs i) := by unfold mid; omega
  have m2 : mid (geti xs i) := by unfold mid; omega
  have g4 := gd_nonneg xs (i + 1)
  have g5 := gd_le h (i + 1)
  have g6 : gd xs (i + 1) = (Int.gcd (gd xs i) (geti xs i) : Int) := rfl
  have e1 := dvs_len xs i
  have e2 := dvs_succ xs i
  have e3 : dvs xs i ++ [(Int.gcd (gd xs i) (geti xs i) : Int)] = dvs xs (i + 1) := e2
  by_cases hi : i < xs.length
  · repeat' (first
  | (apply AOps.nil; try simp only [List.nil_append, List.cons_append, List.set_cons_zero, List.set_cons_succ, List.length_cons, List.length_nil, Nat.reduceAdd, AV.sh, AV.sh1, AV.sh0, AO.sh, List.map_cons, List.map_nil, Nat.zero_add, Nat.add_zero, setAll])
  | ((apply AOps.splitP; exact rfl; exact rfl) <;> intro h)
  | ((apply AOps.splitN; exact rfl; exact rfl) <;> intro h)
  | (apply w_move; exact rfl; exact rfl)
  | (apply w_assign; exact rfl; exact rfl)
  | apply AWp.seq
  | apply AWp.region
  | ((apply AWp.condP; exact rfl) <;> intro h)
  | ((apply AWp.condN; exact rfl) <;> intro h)
  | (apply AWp.condT; exact rfl)
  | (apply AWp.condF; exact rfl)
  | ((apply AWp.condB; exact rfl) <;> intro h)
  | apply AWp.block
  | apply AWp.ret
  | apply AWp.exit
  | apply AWp.skip
  | (apply AWp.regionQ; kernel_rfl; kernel_rfl)
  | (apply if_pos'; exact rfl)
  | (apply if_neg'; decide)
  | (apply w_skip; exact rfl)
  | (apply w_pickT; exact rfl; exact rfl; exact rfl)
  | (apply w_pickF; exact rfl; exact rfl; exact rfl)
  | (apply w_len; exact rfl; exact rfl; first | exact .ints _ | exact .intss _ | exact .sli rfl | exact .sls rfl | exact .slr rfl | exact .orow rfl | exact .nil)
  | (apply w_call (divisor_c _ _ m1 m2); exact rfl; exact rfl; focus ((repeat (first | exact im_nil | refine im_cons rfl (.val _) ?_ | refine im_cons rfl (.ints _) ?_ | refine im_cons rfl (.intss _) ?_ | refine im_cons rfl (.sli rfl) ?_ | refine im_cons rfl (.sls rfl) ?_ | refine im_cons rfl (.orow rfl) ?_ | refine im_cons rfl (.osub rfl (by simp; omega)) ?_ | refine im_cons rfl (.nil) ?_ | refine im_cons rfl (.nils) ?_ | refine im_cons rfl (im_agg2 (.val _) (.ints _)) ?_ | refine im_cons rfl (im_agg2 (.val _) (.sli rfl)) ?_ | refine im_cons rfl (im_agg2 (.val _) (.nil)) ?_ | refine im_cons rfl (im_agg2 (.ints _) (.intss _)) ?_ | refine im_cons rfl (im_agg2 (.ints _) (.sls rfl)) ?_ | refine im_cons rfl (im_agg2 (.sli rfl) (.intss _)) ?_ | refine im_cons rfl (im_agg2 (.sli rfl) (.sls rfl)) ?_ | refine im_cons rfl (im_agg1 (.ints _)) ?_ | refine im_cons rfl (im_agg1 (.sli rfl)) ?_ | refine im_cons rfl (im_agg1 (.intss _)) ?_ | refine im_cons rfl (im_agg1 (.sls rfl)) ?_ | refine im_cons rfl (im_agg1 (.nil)) ?_ | refine im_cons rfl (im_agg1 (.nils)) ?_)); done))
  | omega
  | ((first | apply w_lss | apply w_leq | apply w_gtr | apply w_geq | apply w_eql | apply w_neq | apply w_add | apply w_sub | apply w_mul | apply w_idx | apply w_ld | apply w_fld | apply w_fa | apply w_extv | apply w_min | apply w_max | apply w_slhi | apply w_sllo | apply w_bs2); iterate 3 exact rfl)
  | ((first | apply w_eqlb | apply w_neqb | apply w_idxs | apply w_lds | apply w_ext); iterate 3 exact rfl)
  | (apply w_rem; exact rfl; exact rfl; exact rfl; (focus (omega; done)); (focus (omega; done)))
  | (apply w_quo; exact rfl; exact rfl; exact rfl; (focus (omega; done)); (focus (omega; done)))
  | (apply w_remT; exact rfl; exact rfl; exact rfl)
  | (apply w_quoT; exact rfl; exact rfl; exact rfl)
  | ((first | apply w_not | apply w_neg | apply w_conv | apply w_build0 | apply w_bs1 | apply w_boxa); iterate 2 exact rfl)
  | (apply w_idxo; exact rfl; exact rfl; (first | exact .sli rfl | exact .sls rfl | exact .slr rfl); exact rfl)
  | ((first | apply w_idxr | apply w_ldr); iterate 4 exact rfl)
  | (apply w_ldo; iterate 4 exact rfl)
  | (apply w_ldls; iterate 4 exact rfl)
  | (apply w_ldrp; iterate 4 exact rfl)
  | (apply w_ldb; iterate 5 exact rfl)
  | (apply w_ldst; iterate 5 exact rfl)
  | ((first | apply w_sllh | apply w_stbi); iterate 4 exact rfl)
  | ((first | apply w_oslo | apply w_oshi | apply w_stbii); iterate 4 exact rfl)
  | (apply w_build1; exact rfl; exact rfl; (first | exact one_val rfl rfl | exact one_ints | exact one_intss | exact one_own rfl True.intro))
  | (apply w_build2; exact rfl; exact rfl; exact rfl; (first | exact one_val rfl rfl | exact one_ints | exact one_intss | exact one_own rfl True.intro); (first | exact one_val rfl rfl | exact one_ints | exact one_intss | exact one_own rfl True.intro))
  | (apply w_bs0; iterate 1 exact rfl)
  | (apply w_appn; exact rfl; exact rfl; (first | exact .ints _ | exact .sli rfl | exact .orow rfl | exact .nil | exact .osub rfl (by simp; omega)); exact rfl)
  | (apply w_app; exact rfl; exact rfl; exact rfl; exact rfl; (first | exact .ints _ | exact .sli rfl | exact .orow rfl | exact .nil | exact .osub rfl (by simp; omega)); rotate_left 1; simp only [Env.mp, List.map_cons, List.map_nil, List.set_cons_zero, List.set_cons_succ, AV.kill, AV.kill1, AO.kill, AV.noRow, AV.noRow1, AO.via, reduceIte, Nat.reduceEqDiff, Nat.reduceLT, Env.up, Nat.zero_ne_one, Nat.one_ne_zero, Nat.reduceAdd, List.cons_append, List.nil_append]; rotate_left 1)
  | (apply w_alst; iterate 2 exact rfl)
  | (apply w_alone; iterate 3 exact rfl)
  | (apply w_mki; exact rfl; exact rfl; rotate_left 3; exact rfl; rotate_left 1)
  | (apply w_sti; exact rfl; exact rfl; rotate_left 1; exact rfl; rotate_left 2)
  | (apply w_stst; iterate 5 exact rfl)
  | (apply w_stbv; iterate 6 exact rfl)
  | (apply w_stbo; exact rfl; exact rfl; exact rfl; exact rfl; exact rfl; exact True.intro)
  | ((apply AOps.splitB; exact rfl; exact rfl) <;> intro h)
  | apply AllOf.nil
  | (apply AllOf.cons; exact rfl)
  | (apply AAny.take; exact rfl; exact rfl; kernel_rfl; kernel_rfl)
  | (apply AAny.all; exact rfl)
  | (apply AAny.done; exact rfl)
  | (apply inI_of <;> omega)
  | omega
  | (simp <;> omega))
    all_goals exact ⟨i + 1, by omega, by omega, ⟨lee rfl (by (repeat (first | exact le_nil | refine le_eq rfl rfl ?_ | refine le_eq rfl (congrArg AV.i (by omega)) ?_ | refine le_eq rfl (congrArg AV.i (e3)) ?_))), by (repeat (first | exact lo_nil | refine lo_dead ?_ | refine lo_eq rfl ?_ | refine lo_eq (congrArg (AO.sli _) (e3)) ?_ | refine lo_eq (congrArg (AO.sls _ _) (e3)) ?_)), rfl, rfl⟩⟩
  · repeat' (first
  | (apply AOps.nil; try simp only [List.nil_append, List.cons_append, List.set_cons_zero, List.set_cons_succ, List.length_cons, List.length_nil, Nat.reduceAdd, AV.sh, AV.sh1, AV.sh0, AO.sh, List.map_cons, List.map_nil, Nat.zero_add, Nat.add_zero, setAll])
  | ((apply AOps.splitP; exact rfl; exact rfl) <;> intro h)
  | ((apply AOps.splitN; exact rfl; exact rfl) <;> intro h)
  | (apply w_move; exact rfl; exact rfl)
  | (apply w_assign; exact rfl; exact rfl)
  | apply AWp.seq
  | apply AWp.region
  | ((apply AWp.condP; exact rfl) <;> intro h)
  | ((apply AWp.condN; exact rfl) <;> intro h)
  | (apply AWp.condT; exact rfl)
  | (apply AWp.condF; exact rfl)
  | ((apply AWp.condB; exact rfl) <;> intro h)
  | apply AWp.block
  | apply AWp.ret
  | apply AWp.exit
  | apply AWp.skip
  | (apply AWp.regionQ; kernel_rfl; kernel_rfl)
  | (apply if_pos'; exact rfl)
  | (apply if_neg'; decide)
  | (apply w_skip; exact rfl)
  | (apply w_pickT; exact rfl; exact rfl; exact rfl)
  | (apply w_pickF; exact rfl; exact rfl; exact rfl)
  | (apply w_len; exact rfl; exact rfl; first | exact .ints _ | exact .intss _ | exact .sli rfl | exact .sls rfl | exact .slr rfl | exact .orow rfl | exact .nil)
  | omega
  | ((first | apply w_lss | apply w_leq | apply w_gtr | apply w_geq | apply w_eql | apply w_neq | apply w_add | apply w_sub | apply w_mul | apply w_idx | apply w_ld | apply w_fld | apply w_fa | apply w_extv | apply w_min | apply w_max | apply w_slhi | apply w_sllo | apply w_bs2); iterate 3 exact rfl)
  | ((first | apply w_eqlb | apply w_neqb | apply w_idxs | apply w_lds | apply w_ext); iterate 3 exact rfl)
  | (apply w_rem; exact rfl; exact rfl; exact rfl; (focus (omega; done)); (focus (omega; done)))
  | (apply w_quo; exact rfl; exact rfl; exact rfl; (focus (omega; done)); (focus (omega; done)))
  | (apply w_remT; exact rfl; exact rfl; exact rfl)
  | (apply w_quoT; exact rfl; exact rfl; exact rfl)
  | ((first | apply w_not | apply w_neg | apply w_conv | apply w_build0 | apply w_bs1 | apply w_boxa); iterate 2 exact rfl)
  | (apply w_idxo; exact rfl; exact rfl; (first | exact .sli rfl | exact .sls rfl | exact .slr rfl); exact rfl)
  | ((first | apply w_idxr | apply w_ldr); iterate 4 exact rfl)
  | (apply w_ldo; iterate 4 exact rfl)
  | (apply w_ldls; iterate 4 exact rfl)
  | (apply w_ldrp; iterate 4 exact rfl)
  | (apply w_ldb; iterate 5 exact rfl)
  | (apply w_ldst; iterate 5 exact rfl)
  | ((first | apply w_sllh | apply w_stbi); iterate 4 exact rfl)
  | ((first | apply w_oslo | apply w_oshi | apply w_stbii); iterate 4 exact rfl)
  | (apply w_build1; exact rfl; exact rfl; (first | exact one_val rfl rfl | exact one_ints | exact one_intss | exact one_own rfl True.intro))
  | (apply w_build2; exact rfl; exact rfl; exact rfl; (first | exact one_val rfl rfl | exact one_ints | exact one_intss | exact one_own rfl True.intro); (first | exact one_val rfl rfl | exact one_ints | exact one_intss | exact one_own rfl True.intro))
  | (apply w_bs0; iterate 1 exact rfl)
  | (apply w_appn; exact rfl; exact rfl; (first | exact .ints _ | exact .sli rfl | exact .orow rfl | exact .nil | exact .osub rfl (by simp; omega)); exact rfl)
  | (apply w_app; exact rfl; exact rfl; exact rfl; exact rfl; (first | exact .ints _ | exact .sli rfl | exact .orow rfl | exact .nil | exact .osub rfl (by simp; omega)); rotate_left 1; simp only [Env.mp, List.map_cons, List.map_nil, List.set_cons_zero, List.set_cons_succ, AV.kill, AV.kill1, AO.kill, AV.noRow, AV.noRow1, AO.via, reduceIte, Nat.reduceEqDiff, Nat.reduceLT, Env.up, Nat.zero_ne_one, Nat.one_ne_zero, Nat.reduceAdd, List.cons_append, List.nil_append]; rotate_left 1)
  | (apply w_alst; iterate 2 exact rfl)
  | (apply w_alone; iterate 3 exact rfl)
  | (apply w_mki; exact rfl; exact rfl; rotate_left 3; exact rfl; rotate_left 1)
  | (apply w_sti; exact rfl; exact rfl; rotate_left 1; exact rfl; rotate_left 2)
  | (apply w_stst; iterate 5 exact rfl)
  | (apply w_stbv; iterate 6 exact rfl)
  | (apply w_stbo; exact rfl; exact rfl; exact rfl; exact rfl; exact rfl; exact True.intro)
  | ((apply AOps.splitB; exact rfl; exact rfl) <;> intro h)
  | apply AllOf.nil
  | (apply AllOf.cons; exact rfl)
  | (apply AAny.take; exact rfl; exact rfl; kernel_rfl; kernel_rfl)
  | (apply AAny.all; exact rfl)
  | (apply AAny.done; exact rfl)
  | (apply inI_of <;> omega)
  | omega
  | (simp <;> omega))
    have e : i = xs.length := by omega
    subst e
    exact ⟨_, _, _, .v1 Try.results41 rfl, .sli rfl, rfl, rfl⟩

theorem falls_c (xs : List Int) (h : Sm xs) (hl : xs.length ≤ 100000) (hp : 0 < xs.length) : AFnV Try.prog 54 [.ints xs] (.bool (decide (Fal xs))) := by
  have el := dvs_len xs xs.length
  (refine AFnV.start Try.func54 Try.ntmps54 rfl (by kernel_rfl) fun hk => ?_; simp only [Env.start, enumF, List.length_cons, List.length_nil, Nat.reduceAdd, Nat.reduceSub, List.cons_append, List.nil_append])
  repeat' (first
  | (apply AOps.nil; try simp only [List.nil_append, List.cons_append, List.set_cons_zero, List.set_cons_succ, List.length_cons, List.length_nil, Nat.reduceAdd, AV.sh, AV.sh1, AV.sh0, AO.sh, List.map_cons, List.map_nil, Nat.zero_add, Nat.add_zero, setAll])
  | ((apply AOps.splitP; exact rfl; exact rfl) <;> intro h)
  | ((apply AOps.splitN; exact rfl; exact rfl) <;> intro h)
  | (apply w_move; exact rfl; exact rfl)
  | (apply w_assign; exact rfl; exact rfl)
  | apply AWp.seq
  | apply AWp.region
  | ((apply AWp.condP; exact rfl) <;> intro h)
  | ((apply AWp.condN; exact rfl) <;> intro h)
  | (apply AWp.condT; exact rfl)
  | (apply AWp.condF; exact rfl)
  | ((apply AWp.condB; exact rfl) <;> intro h)
  | apply AWp.block
  | apply AWp.ret
  | apply AWp.exit
  | apply AWp.skip
  | (apply AWp.regionQ; kernel_rfl; kernel_rfl)
  | (apply if_pos'; exact rfl)
  | (apply if_neg'; decide)
  | (apply w_skip; exact rfl)
  | (apply w_pickT; exact rfl; exact rfl; exact rfl)
  | (apply w_pickF; exact rfl; exact rfl; exact rfl)
  | (apply w_len; exact rfl; exact rfl; first | exact .ints _ | exact .intss _ | exact .sli rfl | exact .sls rfl | exact .slr rfl | exact .orow rfl | exact .nil)
  | (apply w_callm (divisors_c _ h hl); (focus ((repeat (first | exact im_nil | refine im_cons rfl (.val _) ?_ | refine im_cons rfl (.ints _) ?_ | refine im_cons rfl (.intss _) ?_ | refine im_cons rfl (.sli rfl) ?_ | refine im_cons rfl (.sls rfl) ?_ | refine im_cons rfl (.orow rfl) ?_ | refine im_cons rfl (.osub rfl (by simp; omega)) ?_ | refine im_cons rfl (.nil) ?_ | refine im_cons rfl (.nils) ?_ | refine im_cons rfl (im_agg2 (.val _) (.ints _)) ?_ | refine im_cons rfl (im_agg2 (.val _) (.sli rfl)) ?_ | refine im_cons rfl (im_agg2 (.val _) (.nil)) ?_ | refine im_cons rfl (im_agg2 (.ints _) (.intss _)) ?_ | refine im_cons rfl (im_agg2 (.ints _) (.sls rfl)) ?_ | refine im_cons rfl (im_agg2 (.sli rfl) (.intss _)) ?_ | refine im_cons rfl (im_agg2 (.sli rfl) (.sls rfl)) ?_ | refine im_cons rfl (im_agg1 (.ints _)) ?_ | refine im_cons rfl (im_agg1 (.sli rfl)) ?_ | refine im_cons rfl (im_agg1 (.intss _)) ?_ | refine im_cons rfl (im_agg1 (.sls rfl)) ?_ | refine im_cons rfl (im_agg1 (.nil)) ?_ | refine im_cons rfl (im_agg1 (.nils)) ?_)); done)); rintro r os0 ⟨rfl, rfl⟩; try simp only [List.nil_append, List.cons_append, List.set_cons_zero, List.set_cons_succ, List.length_cons, List.length_nil, Nat.reduceAdd, AV.sh, AV.sh1, AV.sh0, AO.sh, List.map_cons, List.map_nil, Nat.zero_add, Nat.add_zero, setAll])
  | ((first | apply w_lss | apply w_leq | apply w_gtr | apply w_geq | apply w_eql | apply w_neq | apply w_add | apply w_sub | apply w_mul | apply w_idx | apply w_ld | apply w_fld | apply w_fa | apply w_extv | apply w_min | apply w_max | apply w_slhi | apply w_sllo | apply w_bs2); iterate 3 exact rfl)
  | ((first | apply w_eqlb | apply w_neqb | apply w_idxs | apply w_lds | apply w_ext); iterate 3 exact rfl)
  | (apply w_rem; exact rfl; exact rfl; exact rfl; (focus (omega; done)); (focus (omega; done)))
  | (apply w_quo; exact rfl; exact rfl; exact rfl; (focus (omega; done)); (focus (omega; done)))
  | (apply w_remT; exact rfl; exact rfl; exact rfl)
  | (apply w_quoT; exact rfl; exact rfl; exact rfl)
  | ((first | apply w_not | apply w_neg | apply w_conv | apply w_build0 | apply w_bs1 | apply w_boxa); iterate 2 exact rfl)
  | (apply w_idxo; exact rfl; exact rfl; (first | exact .sli rfl | exact .sls rfl | exact .slr rfl); exact rfl)
  | ((first | apply w_idxr | apply w_ldr); iterate 4 exact rfl)
  | (apply w_ldo; iterate 4 exact rfl)
  | (apply w_ldls; iterate 4 exact rfl)
  | (apply w_ldrp; iterate 4 exact rfl)
  | (apply w_ldb; iterate 5 exact rfl)
  | (apply w_ldst; iterate 5 exact rfl)
  | ((first | apply w_sllh | apply w_stbi); iterate 4 exact rfl)
  | ((first | apply w_oslo | apply w_oshi | apply w_stbii); iterate 4 exact rfl)
  | (apply w_build1; exact rfl; exact rfl; (first | exact one_val rfl rfl | exact one_ints | exact one_intss | exact one_own rfl True.intro))
  | (apply w_build2; exact rfl; exact rfl; exact rfl; (first | exact one_val rfl rfl | exact one_ints | exact one_intss | exact one_own rfl True.intro); (first | exact one_val rfl rfl | exact one_ints | exact one_intss | exact one_own rfl True.intro))
  | (apply w_bs0; iterate 1 exact rfl)
  | (apply w_appn; exact rfl; exact rfl; (first | exact .ints _ | exact .sli rfl | exact .orow rfl | exact .nil | exact .osub rfl (by simp; omega)); exact rfl)
  | (apply w_app; exact rfl; exact rfl; exact rfl; exact rfl; (first | exact .ints _ | exact .sli rfl | exact .orow rfl | exact .nil | exact .osub rfl (by simp; omega)); rotate_left 1; simp only [Env.mp, List.map_cons, List.map_nil, List.set_cons_zero, List.set_cons_succ, AV.kill, AV.kill1, AO.kill, AV.noRow, AV.noRow1, AO.via, reduceIte, Nat.reduceEqDiff, Nat.reduceLT, Env.up, Nat.zero_ne_one, Nat.one_ne_zero, Nat.reduceAdd, List.cons_append, List.nil_append]; rotate_left 1)
  | (apply w_alst; iterate 2 exact rfl)
  | (apply w_alone; iterate 3 exact rfl)
  | (apply w_mki; exact rfl; exact rfl; rotate_left 3; exact rfl; rotate_left 1)
  | (apply w_sti; exact rfl; exact rfl; rotate_left 1; exact rfl; rotate_left 2)
  | (apply w_stst; iterate 5 exact rfl)
  | (apply w_stbv; iterate 6 exact rfl)
  | (apply w_stbo; exact rfl; exact rfl; exact rfl; exact rfl; exact rfl; exact True.intro)
  | ((apply AOps.splitB; exact rfl; exact rfl) <;> intro h)
  | apply AllOf.nil
  | (apply AllOf.cons; exact rfl)
  | (apply AAny.take; exact rfl; exact rfl; kernel_rfl; kernel_rfl)
  | (apply AAny.all; exact rfl)
  | (apply AAny.done; exact rfl)
  | (apply inI_of <;> omega)
  | omega
  | (simp <;> omega))
  refine AWp.loop (ι := Nat) (fun i => ⟨30, [(3, .own 0), (4, .i i)]⟩) (fun _ => [.sli 2 (dvs xs xs.length)]) (fun i => 1 ≤ i ∧ i ≤ xs.length ∧ ∀ j : Nat, 0 < j → j < i → gd xs (j + 1) < gd xs j) (fun i => xs.length - i) 1 ⟨by omega, by omega, fun j h1 h2 => by omega⟩ ⟨lee rfl (by (repeat (first | exact le_nil | refine le_eq rfl rfl ?_ | refine le_eq rfl (congrArg AV.i (by omega)) ?_))), by (repeat (first | exact lo_nil | refine lo_dead ?_ | refine lo_eq rfl ?_)), rfl, rfl⟩ ?_
  rintro i ⟨h0, h1, h2⟩
  by_cases hi : i < xs.length
  · have a1 : geti (dvs xs xs.length) (((i : Int).toNat : Nat) : Int) = gd xs (i + 1) := dvs_get xs xs.length i hi
    have a2 : geti (dvs xs xs.length) ((((i : Int) - 1).toNat : Nat) : Int) = gd xs i := by
      rw [show ((i : Int) - 1).toNat = i - 1 by omega, dvs_get xs xs.length (i - 1) (by omega), show i - 1 + 1 = i by omega]
    repeat' (first
  | (apply AOps.nil; try simp only [List.nil_append, List.cons_append, List.set_cons_zero, List.set_cons_succ, List.length_cons, List.length_nil, Nat.reduceAdd, AV.sh, AV.sh1, AV.sh0, AO.sh, List.map_cons, List.map_nil, Nat.zero_add, Nat.add_zero, setAll])
  | ((apply AOps.splitP; exact rfl; exact rfl) <;> intro h)
  | ((apply AOps.splitN; exact rfl; exact rfl) <;> intro h)
  | (apply w_move; exact rfl; exact rfl)
  | (apply w_assign; exact rfl; exact rfl)
  | apply AWp.seq
  | apply AWp.region
  | ((apply AWp.condP; exact rfl) <;> intro h)
  | ((apply AWp.condN; exact rfl) <;> intro h)
  | (apply AWp.condT; exact rfl)
  | (apply AWp.condF; exact rfl)
  | ((apply AWp.condB; exact rfl) <;> intro h)
  | apply AWp.block
  | apply AWp.ret
  | apply AWp.exit
  | apply AWp.skip
  | (apply AWp.regionQ; kernel_rfl; kernel_rfl)
  | (apply if_pos'; exact rfl)
  | (apply if_neg'; decide)
  | (apply w_skip; exact rfl)
  | (apply w_pickT; exact rfl; exact rfl; exact rfl)
  | (apply w_pickF; exact rfl; exact rfl; exact rfl)
  | (apply w_len; exact rfl; exact rfl; first | exact .ints _ | exact .intss _ | exact .sli rfl | exact .sls rfl | exact .slr rfl | exact .orow rfl | exact .nil)
  | omega
  | ((first | apply w_lss | apply w_leq | apply w_gtr | apply w_geq | apply w_eql | apply w_neq | apply w_add | apply w_sub | apply w_mul | apply w_idx | apply w_ld | apply w_fld | apply w_fa | apply w_extv | apply w_min | apply w_max | apply w_slhi | apply w_sllo | apply w_bs2); iterate 3 exact rfl)
  | ((first | apply w_eqlb | apply w_neqb | apply w_idxs | apply w_lds | apply w_ext); iterate 3 exact rfl)
  | (apply w_rem; exact rfl; exact rfl; exact rfl; (focus (omega; done)); (focus (omega; done)))
  | (apply w_quo; exact rfl; exact rfl; exact rfl; (focus (omega; done)); (focus (omega; done)))
  | (apply w_remT; exact rfl; exact rfl; exact rfl)
  | (apply w_quoT; exact rfl; exact rfl; exact rfl)
  | ((first | apply w_not | apply w_neg | apply w_conv | apply w_build0 | apply w_bs1 | apply w_boxa); iterate 2 exact rfl)
  | (apply w_idxo; exact rfl; exact rfl; (first | exact .sli rfl | exact .sls rfl | exact .slr rfl); exact rfl)
  | ((first | apply w_idxr | apply w_ldr); iterate 4 exact rfl)
  | (apply w_ldo; iterate 4 exact rfl)
  | (apply w_ldls; iterate 4 exact rfl)
  | (apply w_ldrp; iterate 4 exact rfl)
  | (apply w_ldb; iterate 5 exact rfl)
  | (apply w_ldst; iterate 5 exact rfl)
  | ((first | apply w_sllh | apply w_stbi); iterate 4 exact rfl)
  | ((first | apply w_oslo | apply w_oshi | apply w_stbii); iterate 4 exact rfl)
  | (apply w_build1; exact rfl; exact rfl; (first | exact one_val rfl rfl | exact one_ints | exact one_intss | exact one_own rfl True.intro))
  | (apply w_build2; exact rfl; exact rfl; exact rfl; (first | exact one_val rfl rfl | exact one_ints | exact one_intss | exact one_own rfl True.intro); (first | exact one_val rfl rfl | exact one_ints | exact one_intss | exact one_own rfl True.intro))
  | (apply w_bs0; iterate 1 exact rfl)
  | (apply w_appn; exact rfl; exact rfl; (first | exact .ints _ | exact .sli rfl | exact .orow rfl | exact .nil | exact .osub rfl (by simp; omega)); exact rfl)
  | (apply w_app; exact rfl; exact rfl; exact rfl; exact rfl; (first | exact .ints _ | exact .sli rfl | exact .orow rfl | exact .nil | exact .osub rfl (by simp; omega)); rotate_left 1; simp only [Env.mp, List.map_cons, List.map_nil, List.set_cons_zero, List.set_cons_succ, AV.kill, AV.kill1, AO.kill, AV.noRow, AV.noRow1, AO.via, reduceIte, Nat.reduceEqDiff, Nat.reduceLT, Env.up, Nat.zero_ne_one, Nat.one_ne_zero, Nat.reduceAdd, List.cons_append, List.nil_append]; rotate_left 1)
  | (apply w_alst; iterate 2 exact rfl)
  | (apply w_alone; iterate 3 exact rfl)
  | (apply w_mki; exact rfl; exact rfl; rotate_left 3; exact rfl; rotate_left 1)
  | (apply w_sti; exact rfl; exact rfl; rotate_left 1; exact rfl; rotate_left 2)
  | (apply w_stst; iterate 5 exact rfl)
  | (apply w_stbv; iterate 6 exact rfl)
  | (apply w_stbo; exact rfl; exact rfl; exact rfl; exact rfl; exact rfl; exact True.intro)
  | ((apply AOps.splitB; exact rfl; exact rfl) <;> intro h)
  | apply AllOf.nil
  | (apply AllOf.cons; exact rfl)
  | (apply AAny.take; exact rfl; exact rfl; kernel_rfl; kernel_rfl)
  | (apply AAny.all; exact rfl)
  | (apply AAny.done; exact rfl)
  | (apply inI_of <;> omega)
  | omega
  | (simp <;> omega))
    · exact .bool Try.results54 rfl (decide_eq_false fun hz => by have := hz.1 i (by omega) (by omega); omega).symm
    · refine ⟨i + 1, ⟨by omega, by omega, fun j k1 k2 => ?_⟩, by omega, ⟨lee rfl (by (repeat (first | exact le_nil | refine le_eq rfl rfl ?_ | refine le_eq rfl (congrArg AV.i (by omega)) ?_))), by (repeat (first | exact lo_nil | refine lo_dead ?_ | refine lo_eq rfl ?_)), rfl, rfl⟩⟩
      by_cases e : j = i
      · subst e; omega
      · exact h2 j k1 (by omega)
  · have e : i = xs.length := by omega
    subst e
    have a2 : geti (dvs xs xs.length) ((((xs.length : Int) - 1).toNat : Nat) : Int) = gd xs xs.length := by
      rw [show ((xs.length : Int) - 1).toNat = xs.length - 1 by omega, dvs_get xs xs.length (xs.length - 1) (by omega), show xs.length - 1 + 1 = xs.length by omega]
    have ee : ((dvs xs xs.length).length : Int) - 1 = (xs.length : Int) - 1 := by omega
    repeat' (first
  | (apply AOps.nil; try simp only [List.nil_append, List.cons_append, List.set_cons_zero, List.set_cons_succ, List.length_cons, List.length_nil, Nat.reduceAdd, AV.sh, AV.sh1, AV.sh0, AO.sh, List.map_cons, List.map_nil, Nat.zero_add, Nat.add_zero, setAll])
  | ((apply AOps.splitP; exact rfl; exact rfl) <;> intro h)
  | ((apply AOps.splitN; exact rfl; exact rfl) <;> intro h)
  | (apply w_move; exact rfl; exact rfl)
  | (apply w_assign; exact rfl; exact rfl)
  | apply AWp.seq
  | apply AWp.region
  | ((apply AWp.condP; exact rfl) <;> intro h)
  | ((apply AWp.condN; exact rfl) <;> intro h)
  | (apply AWp.condT; exact rfl)
  | (apply AWp.condF; exact rfl)
  | ((apply AWp.condB; exact rfl) <;> intro h)
  | apply AWp.block
  | apply AWp.ret
  | apply AWp.exit
  | apply AWp.skip
  | (apply AWp.regionQ; kernel_rfl; kernel_rfl)
  | (apply if_pos'; exact rfl)
  | (apply if_neg'; decide)
  | (apply w_skip; exact rfl)
  | (apply w_pickT; exact rfl; exact rfl; exact rfl)
  | (apply w_pickF; exact rfl; exact rfl; exact rfl)
  | (apply w_len; exact rfl; exact rfl; first | exact .ints _ | exact .intss _ | exact .sli rfl | exact .sls rfl | exact .slr rfl | exact .orow rfl | exact .nil)
  | omega
  | ((first | apply w_lss | apply w_leq | apply w_gtr | apply w_geq | apply w_eql | apply w_neq | apply w_add | apply w_sub | apply w_mul | apply w_idx | apply w_ld | apply w_fld | apply w_fa | apply w_extv | apply w_min | apply w_max | apply w_slhi | apply w_sllo | apply w_bs2); iterate 3 exact rfl)
  | ((first | apply w_eqlb | apply w_neqb | apply w_idxs | apply w_lds | apply w_ext); iterate 3 exact rfl)
  | (apply w_rem; exact rfl; exact rfl; exact rfl; (focus (omega; done)); (focus (omega; done)))
  | (apply w_quo; exact rfl; exact rfl; exact rfl; (focus (omega; done)); (focus (omega; done)))
  | (apply w_remT; exact rfl; exact rfl; exact rfl)
  | (apply w_quoT; exact rfl; exact rfl; exact rfl)
  | ((first | apply w_not | apply w_neg | apply w_conv | apply w_build0 | apply w_bs1 | apply w_boxa); iterate 2 exact rfl)
  | (apply w_idxo; exact rfl; exact rfl; (first | exact .sli rfl | exact .sls rfl | exact .slr rfl); exact rfl)
  | ((first | apply w_idxr | apply w_ldr); iterate 4 exact rfl)
  | (apply w_ldo; iterate 4 exact rfl)
  | (apply w_ldls; iterate 4 exact rfl)
  | (apply w_ldrp; iterate 4 exact rfl)
  | (apply w_ldb; iterate 5 exact rfl)
  | (apply w_ldst; iterate 5 exact rfl)
  | ((first | apply w_sllh | apply w_stbi); iterate 4 exact rfl)
  | ((first | apply w_oslo | apply w_oshi | apply w_stbii); iterate 4 exact rfl)
  | (apply w_build1; exact rfl; exact rfl; (first | exact one_val rfl rfl | exact one_ints | exact one_intss | exact one_own rfl True.intro))
  | (apply w_build2; exact rfl; exact rfl; exact rfl; (first | exact one_val rfl rfl | exact one_ints | exact one_intss | exact one_own rfl True.intro); (first | exact one_val rfl rfl | exact one_ints | exact one_intss | exact one_own rfl True.intro))
  | (apply w_bs0; iterate 1 exact rfl)
  | (apply w_appn; exact rfl; exact rfl; (first | exact .ints _ | exact .sli rfl | exact .orow rfl | exact .nil | exact .osub rfl (by simp; omega)); exact rfl)
  | (apply w_app; exact rfl; exact rfl; exact rfl; exact rfl; (first | exact .ints _ | exact .sli rfl | exact .orow rfl | exact .nil | exact .osub rfl (by simp; omega)); rotate_left 1; simp only [Env.mp, List.map_cons, List.map_nil, List.set_cons_zero, List.set_cons_succ, AV.kill, AV.kill1, AO.kill, AV.noRow, AV.noRow1, AO.via, reduceIte, Nat.reduceEqDiff, Nat.reduceLT, Env.up, Nat.zero_ne_one, Nat.one_ne_zero, Nat.reduceAdd, List.cons_append, List.nil_append]; rotate_left 1)
  | (apply w_alst; iterate 2 exact rfl)
  | (apply w_alone; iterate 3 exact rfl)
  | (apply w_mki; exact rfl; exact rfl; rotate_left 3; exact rfl; rotate_left 1)
  | (apply w_sti; exact rfl; exact rfl; rotate_left 1; exact rfl; rotate_left 2)
  | (apply w_stst; iterate 5 exact rfl)
  | (apply w_stbv; iterate 6 exact rfl)
  | (apply w_stbo; exact rfl; exact rfl; exact rfl; exact rfl; exact rfl; exact True.intro)
  | ((apply AOps.splitB; exact rfl; exact rfl) <;> intro h)
  | apply AllOf.nil
  | (apply AllOf.cons; exact rfl)
  | (apply AAny.take; exact rfl; exact rfl; kernel_rfl; kernel_rfl)
  | (apply AAny.all; exact rfl)
  | (apply AAny.done; exact rfl)
  | (apply inI_of <;> omega)
  | omega
  | (simp <;> omega))
    have a3 : geti (dvs xs xs.length) (((((dvs xs xs.length).length : Int) - 1).toNat : Nat) : Int) = gd xs xs.length := by rw [ee]; exact a2
    refine .bool Try.results54 rfl ?_
    rw [a3]
    exact decide_eq_decide.2 ⟨fun hh => ⟨fun j k1 k2 => h2 j k1 k2, hh⟩, fun hz => hz.2⟩

theorem asc_ge {xs : List Int} (h : Asc xs) (h0 : 1 ≤ geti xs 0) : ∀ i : Nat, i < xs.length → (i : Int) + 1 ≤ geti xs i
  | 0, _ => by simpa using h0
  | i + 1, hi => by
    have ih := asc_ge h h0 i (by omega)
    have := h (i + 1) (by omega) hi
    rw [show (((i + 1 : Nat) : Int) - 1) = (i : Int) by omega] at this
    omega
theorem sm_of {xs : List Int} (h : withinL xs 1 2000 = true) : Sm xs := fun i => by
  by_cases h1 : i.toNat < xs.length
  · have := withinL_get h i.toNat h1
    have e : geti xs ((i.toNat : Nat) : Int) = geti xs i := by unfold geti; rw [Int.toNat_natCast]
    rw [e] at this
    omega
  · simp [geti, List.getElem?_eq_none (show xs.length ≤ i.toNat by omega)]
theorem asc_len {xs : List Int} (h : Asc xs) (h0 : 1 ≤ geti xs 0) (h1 : withinL xs 1 2000 = true) : xs.length ≤ 2000 := by
  by_cases hp : xs.length = 0
  · omega
  · have a := asc_ge h h0 (xs.length - 1) (by omega)
    have b := (sm_of h1 ((xs.length - 1 : Nat) : Int)).2
    omega

theorem implIsBranch_c (xs : List Int) : AFnV Try.prog 39 [.agg [.ints xs]] (.bool (isBr xs)) := by
  (refine AFnV.start Try.func39 Try.ntmps39 rfl (by kernel_rfl) fun hk => ?_; simp only [Env.start, enumF, List.length_cons, List.length_nil, Nat.reduceAdd, Nat.reduceSub, List.cons_append, List.nil_append])
  by_cases hg : ((0 : Int) < xs.length ∧ (1 ≤ geti xs 0 ∧ geti xs 0 ≤ 64)) ∧ Asc xs ∧ withinL xs 1 2000 = true
  · obtain ⟨⟨g1, g2⟩, g3, g4⟩ := hg
    have hf := falls_c xs (sm_of g4) (by have := asc_len g3 g2.1 g4; omega) (by omega)
    have ha := ascends_c xs
    rw [decide_eq_true g3] at ha
    have hw := within_c xs 1 2000
    rw [g4] at hw
    have g1' : 0 < xs.length := by omega
    have e : isBr xs = decide (Fal xs) := by simp [isBr, g1', g2, g3, g4]
    repeat' (first
  | (apply AOps.nil; try simp only [List.nil_append, List.cons_append, List.set_cons_zero, List.set_cons_succ, List.length_cons, List.length_nil, Nat.reduceAdd, AV.sh, AV.sh1, AV.sh0, AO.sh, List.map_cons, List.map_nil, Nat.zero_add, Nat.add_zero, setAll])
  | ((apply AOps.splitP; exact rfl; exact rfl) <;> intro h)
  | ((apply AOps.splitN; exact rfl; exact rfl) <;> intro h)
  | (apply w_move; exact rfl; exact rfl)
  | (apply w_assign; exact rfl; exact rfl)
  | apply AWp.seq
  | apply AWp.region
  | ((apply AWp.condP; exact rfl) <;> intro h)
  | ((apply AWp.condN; exact rfl) <;> intro h)
  | (apply AWp.condT; exact rfl)
  | (apply AWp.condF; exact rfl)
  | ((apply AWp.condB; exact rfl) <;> intro h)
  | apply AWp.block
  | apply AWp.ret
  | apply AWp.exit
  | apply AWp.skip
  | (apply AWp.regionQ; kernel_rfl; kernel_rfl)
  | (apply if_pos'; exact rfl)
  | (apply if_neg'; decide)
  | (apply w_skip; exact rfl)
  | (apply w_pickT; exact rfl; exact rfl; exact rfl)
  | (apply w_pickF; exact rfl; exact rfl; exact rfl)
  | (apply w_len; exact rfl; exact rfl; first | exact .ints _ | exact .intss _ | exact .sli rfl | exact .sls rfl | exact .slr rfl | exact .orow rfl | exact .nil)
  | (apply w_call (inRange_c _ _ _); exact rfl; exact rfl; focus ((repeat (first | exact im_nil | refine im_cons rfl (.val _) ?_ | refine im_cons rfl (.ints _) ?_ | refine im_cons rfl (.intss _) ?_ | refine im_cons rfl (.sli rfl) ?_ | refine im_cons rfl (.sls rfl) ?_ | refine im_cons rfl (.orow rfl) ?_ | refine im_cons rfl (.osub rfl (by simp; omega)) ?_ | refine im_cons rfl (.nil) ?_ | refine im_cons rfl (.nils) ?_ | refine im_cons rfl (im_agg2 (.val _) (.ints _)) ?_ | refine im_cons rfl (im_agg2 (.val _) (.sli rfl)) ?_ | refine im_cons rfl (im_agg2 (.val _) (.nil)) ?_ | refine im_cons rfl (im_agg2 (.ints _) (.intss _)) ?_ | refine im_cons rfl (im_agg2 (.ints _) (.sls rfl)) ?_ | refine im_cons rfl (im_agg2 (.sli rfl) (.intss _)) ?_ | refine im_cons rfl (im_agg2 (.sli rfl) (.sls rfl)) ?_ | refine im_cons rfl (im_agg1 (.ints _)) ?_ | refine im_cons rfl (im_agg1 (.sli rfl)) ?_ | refine im_cons rfl (im_agg1 (.intss _)) ?_ | refine im_cons rfl (im_agg1 (.sls rfl)) ?_ | refine im_cons rfl (im_agg1 (.nil)) ?_ | refine im_cons rfl (im_agg1 (.nils)) ?_)); done))
  | (apply w_call (ha); exact rfl; exact rfl; focus ((repeat (first | exact im_nil | refine im_cons rfl (.val _) ?_ | refine im_cons rfl (.ints _) ?_ | refine im_cons rfl (.intss _) ?_ | refine im_cons rfl (.sli rfl) ?_ | refine im_cons rfl (.sls rfl) ?_ | refine im_cons rfl (.orow rfl) ?_ | refine im_cons rfl (.osub rfl (by simp; omega)) ?_ | refine im_cons rfl (.nil) ?_ | refine im_cons rfl (.nils) ?_ | refine im_cons rfl (im_agg2 (.val _) (.ints _)) ?_ | refine im_cons rfl (im_agg2 (.val _) (.sli rfl)) ?_ | refine im_cons rfl (im_agg2 (.val _) (.nil)) ?_ | refine im_cons rfl (im_agg2 (.ints _) (.intss _)) ?_ | refine im_cons rfl (im_agg2 (.ints _) (.sls rfl)) ?_ | refine im_cons rfl (im_agg2 (.sli rfl) (.intss _)) ?_ | refine im_cons rfl (im_agg2 (.sli rfl) (.sls rfl)) ?_ | refine im_cons rfl (im_agg1 (.ints _)) ?_ | refine im_cons rfl (im_agg1 (.sli rfl)) ?_ | refine im_cons rfl (im_agg1 (.intss _)) ?_ | refine im_cons rfl (im_agg1 (.sls rfl)) ?_ | refine im_cons rfl (im_agg1 (.nil)) ?_ | refine im_cons rfl (im_agg1 (.nils)) ?_)); done))
  | (apply w_call (hw); exact rfl; exact rfl; focus ((repeat (first | exact im_nil | refine im_cons rfl (.val _) ?_ | refine im_cons rfl (.ints _) ?_ | refine im_cons rfl (.intss _) ?_ | refine im_cons rfl (.sli rfl) ?_ | refine im_cons rfl (.sls rfl) ?_ | refine im_cons rfl (.orow rfl) ?_ | refine im_cons rfl (.osub rfl (by simp; omega)) ?_ | refine im_cons rfl (.nil) ?_ | refine im_cons rfl (.nils) ?_ | refine im_cons rfl (im_agg2 (.val _) (.ints _)) ?_ | refine im_cons rfl (im_agg2 (.val _) (.sli rfl)) ?_ | refine im_cons rfl (im_agg2 (.val _) (.nil)) ?_ | refine im_cons rfl (im_agg2 (.ints _) (.intss _)) ?_ | refine im_cons rfl (im_agg2 (.ints _) (.sls rfl)) ?_ | refine im_cons rfl (im_agg2 (.sli rfl) (.intss _)) ?_ | refine im_cons rfl (im_agg2 (.sli rfl) (.sls rfl)) ?_ | refine im_cons rfl (im_agg1 (.ints _)) ?_ | refine im_cons rfl (im_agg1 (.sli rfl)) ?_ | refine im_cons rfl (im_agg1 (.intss _)) ?_ | refine im_cons rfl (im_agg1 (.sls rfl)) ?_ | refine im_cons rfl (im_agg1 (.nil)) ?_ | refine im_cons rfl (im_agg1 (.nils)) ?_)); done))
  | (apply w_call (hf); exact rfl; exact rfl; focus ((repeat (first | exact im_nil | refine im_cons rfl (.val _) ?_ | refine im_cons rfl (.ints _) ?_ | refine im_cons rfl (.intss _) ?_ | refine im_cons rfl (.sli rfl) ?_ | refine im_cons rfl (.sls rfl) ?_ | refine im_cons rfl (.orow rfl) ?_ | refine im_cons rfl (.osub rfl (by simp; omega)) ?_ | refine im_cons rfl (.nil) ?_ | refine im_cons rfl (.nils) ?_ | refine im_cons rfl (im_agg2 (.val _) (.ints _)) ?_ | refine im_cons rfl (im_agg2 (.val _) (.sli rfl)) ?_ | refine im_cons rfl (im_agg2 (.val _) (.nil)) ?_ | refine im_cons rfl (im_agg2 (.ints _) (.intss _)) ?_ | refine im_cons rfl (im_agg2 (.ints _) (.sls rfl)) ?_ | refine im_cons rfl (im_agg2 (.sli rfl) (.intss _)) ?_ | refine im_cons rfl (im_agg2 (.sli rfl) (.sls rfl)) ?_ | refine im_cons rfl (im_agg1 (.ints _)) ?_ | refine im_cons rfl (im_agg1 (.sli rfl)) ?_ | refine im_cons rfl (im_agg1 (.intss _)) ?_ | refine im_cons rfl (im_agg1 (.sls rfl)) ?_ | refine im_cons rfl (im_agg1 (.nil)) ?_ | refine im_cons rfl (im_agg1 (.nils)) ?_)); done))
  | omega
  | ((first | apply w_lss | apply w_leq | apply w_gtr | apply w_geq | apply w_eql | apply w_neq | apply w_add | apply w_sub | apply w_mul | apply w_idx | apply w_ld | apply w_fld | apply w_fa | apply w_extv | apply w_min | apply w_max | apply w_slhi | apply w_sllo | apply w_bs2); iterate 3 exact rfl)
  | ((first | apply w_eqlb | apply w_neqb | apply w_idxs | apply w_lds | apply w_ext); iterate 3 exact rfl)
  | (apply w_rem; exact rfl; exact rfl; exact rfl; (focus (omega; done)); (focus (omega; done)))
  | (apply w_quo; exact rfl; exact rfl; exact rfl; (focus (omega; done)); (focus (omega; done)))
  | (apply w_remT; exact rfl; exact rfl; exact rfl)
  | (apply w_quoT; exact rfl; exact rfl; exact rfl)
  | ((first | apply w_not | apply w_neg | apply w_conv | apply w_build0 | apply w_bs1 | apply w_boxa); iterate 2 exact rfl)
  | (apply w_idxo; exact rfl; exact rfl; (first | exact .sli rfl | exact .sls rfl | exact .slr rfl); exact rfl)
  | ((first | apply w_idxr | apply w_ldr); iterate 4 exact rfl)
  | (apply w_ldo; iterate 4 exact rfl)
  | (apply w_ldls; iterate 4 exact rfl)
  | (apply w_ldrp; iterate 4 exact rfl)
  | (apply w_ldb; iterate 5 exact rfl)
  | (apply w_ldst; iterate 5 exact rfl)
  | ((first | apply w_sllh | apply w_stbi); iterate 4 exact rfl)
  | ((first | apply w_oslo | apply w_oshi | apply w_stbii); iterate 4 exact rfl)
  | (apply w_build1; exact rfl; exact rfl; (first | exact one_val rfl rfl | exact one_ints | exact one_intss | exact one_own rfl True.intro))
  | (apply w_build2; exact rfl; exact rfl; exact rfl; (first | exact one_val rfl rfl | exact one_ints | exact one_intss | exact one_own rfl True.intro); (first | exact one_val rfl rfl | exact one_ints | exact one_intss | exact one_own rfl True.intro))
  | (apply w_bs0; iterate 1 exact rfl)
  | (apply w_appn; exact rfl; exact rfl; (first | exact .ints _ | exact .sli rfl | exact .orow rfl | exact .nil | exact .osub rfl (by simp; omega)); exact rfl)
  | (apply w_app; exact rfl; exact rfl; exact rfl; exact rfl; (first | exact .ints _ | exact .sli rfl | exact .orow rfl | exact .nil | exact .osub rfl (by simp; omega)); rotate_left 1; simp only [Env.mp, List.map_cons, List.map_nil, List.set_cons_zero, List.set_cons_succ, AV.kill, AV.kill1, AO.kill, AV.noRow, AV.noRow1, AO.via, reduceIte, Nat.reduceEqDiff, Nat.reduceLT, Env.up, Nat.zero_ne_one, Nat.one_ne_zero, Nat.reduceAdd, List.cons_append, List.nil_append]; rotate_left 1)
  | (apply w_alst; iterate 2 exact rfl)
  | (apply w_alone; iterate 3 exact rfl)
  | (apply w_mki; exact rfl; exact rfl; rotate_left 3; exact rfl; rotate_left 1)
  | (apply w_sti; exact rfl; exact rfl; rotate_left 1; exact rfl; rotate_left 2)
  | (apply w_stst; iterate 5 exact rfl)
  | (apply w_stbv; iterate 6 exact rfl)
  | (apply w_stbo; exact rfl; exact rfl; exact rfl; exact rfl; exact rfl; exact True.intro)
  | ((apply AOps.splitB; exact rfl; exact rfl) <;> intro h)
  | apply AllOf.nil
  | (apply AllOf.cons; exact rfl)
  | (apply AAny.take; exact rfl; exact rfl; kernel_rfl; kernel_rfl)
  | (apply AAny.all; exact rfl)
  | (apply AAny.done; exact rfl)
  | (apply inI_of <;> omega)
  | omega
  | (simp <;> omega))
    all_goals exact .bool Try.results39 rfl (by simp_all)
  · have e : isBr xs = false := by
      rw [Bool.eq_false_iff]
      intro hb
      simp only [isBr, Bool.and_eq_true, decide_eq_true_eq] at hb
      exact hg ⟨⟨hb.1.1.1.1, hb.1.1.1.2⟩, hb.1.1.2, hb.1.2⟩
    rw [e]
    have ha := ascends_c xs
    have hw := within_c xs 1 2000
    by_cases g1 : (0 : Int) < xs.length ∧ (1 ≤ geti xs 0 ∧ geti xs 0 ≤ 64)
    · by_cases g2 : Asc xs
      · rw [decide_eq_true g2] at ha
        have g3 : withinL xs 1 2000 = false := by
          rw [Bool.eq_false_iff]; intro hb; exact hg ⟨g1, g2, hb⟩
        rw [g3] at hw
        repeat' (first
  | (apply AOps.nil; try simp only [List.nil_append, List.cons_append, List.set_cons_zero, List.set_cons_succ, List.length_cons, List.length_nil, Nat.reduceAdd, AV.sh, AV.sh1, AV.sh0, AO.sh, List.map_cons, List.map_nil, Nat.zero_add, Nat.add_zero, setAll])
  | ((apply AOps.splitP; exact rfl; exact rfl) <;> intro h)
  | ((apply AOps.splitN; exact rfl; exact rfl) <;> intro h)
  | (apply w_move; exact rfl; exact rfl)
  | (apply w_assign; exact rfl; exact rfl)
  | apply AWp.seq
  | apply AWp.region
  | ((apply AWp.condP; exact rfl) <;> intro h)
  | ((apply AWp.condN; exact rfl) <;> intro h)
  | (apply AWp.condT; exact rfl)
  | (apply AWp.condF; exact rfl)
  | ((apply AWp.condB; exact rfl) <;> intro h)
  | apply AWp.block
  | apply AWp.ret
  | apply AWp.exit
  | apply AWp.skip
  | (apply AWp.regionQ; kernel_rfl; kernel_rfl)
  | (apply if_pos'; exact rfl)
  | (apply if_neg'; decide)
  | (apply w_skip; exact rfl)
  | (apply w_pickT; exact rfl; exact rfl; exact rfl)
  | (apply w_pickF; exact rfl; exact rfl; exact rfl)
  | (apply w_len; exact rfl; exact rfl; first | exact .ints _ | exact .intss _ | exact .sli rfl | exact .sls rfl | exact .slr rfl | exact .orow rfl | exact .nil)
  | (apply w_call (inRange_c _ _ _); exact rfl; exact rfl; focus ((repeat (first | exact im_nil | refine im_cons rfl (.val _) ?_ | refine im_cons rfl (.ints _) ?_ | refine im_cons rfl (.intss _) ?_ | refine im_cons rfl (.sli rfl) ?_ | refine im_cons rfl (.sls rfl) ?_ | refine im_cons rfl (.orow rfl) ?_ | refine im_cons rfl (.osub rfl (by simp; omega)) ?_ | refine im_cons rfl (.nil) ?_ | refine im_cons rfl (.nils) ?_ | refine im_cons rfl (im_agg2 (.val _) (.ints _)) ?_ | refine im_cons rfl (im_agg2 (.val _) (.sli rfl)) ?_ | refine im_cons rfl (im_agg2 (.val _) (.nil)) ?_ | refine im_cons rfl (im_agg2 (.ints _) (.intss _)) ?_ | refine im_cons rfl (im_agg2 (.ints _) (.sls rfl)) ?_ | refine im_cons rfl (im_agg2 (.sli rfl) (.intss _)) ?_ | refine im_cons rfl (im_agg2 (.sli rfl) (.sls rfl)) ?_ | refine im_cons rfl (im_agg1 (.ints _)) ?_ | refine im_cons rfl (im_agg1 (.sli rfl)) ?_ | refine im_cons rfl (im_agg1 (.intss _)) ?_ | refine im_cons rfl (im_agg1 (.sls rfl)) ?_ | refine im_cons rfl (im_agg1 (.nil)) ?_ | refine im_cons rfl (im_agg1 (.nils)) ?_)); done))
  | (apply w_call (ha); exact rfl; exact rfl; focus ((repeat (first | exact im_nil | refine im_cons rfl (.val _) ?_ | refine im_cons rfl (.ints _) ?_ | refine im_cons rfl (.intss _) ?_ | refine im_cons rfl (.sli rfl) ?_ | refine im_cons rfl (.sls rfl) ?_ | refine im_cons rfl (.orow rfl) ?_ | refine im_cons rfl (.osub rfl (by simp; omega)) ?_ | refine im_cons rfl (.nil) ?_ | refine im_cons rfl (.nils) ?_ | refine im_cons rfl (im_agg2 (.val _) (.ints _)) ?_ | refine im_cons rfl (im_agg2 (.val _) (.sli rfl)) ?_ | refine im_cons rfl (im_agg2 (.val _) (.nil)) ?_ | refine im_cons rfl (im_agg2 (.ints _) (.intss _)) ?_ | refine im_cons rfl (im_agg2 (.ints _) (.sls rfl)) ?_ | refine im_cons rfl (im_agg2 (.sli rfl) (.intss _)) ?_ | refine im_cons rfl (im_agg2 (.sli rfl) (.sls rfl)) ?_ | refine im_cons rfl (im_agg1 (.ints _)) ?_ | refine im_cons rfl (im_agg1 (.sli rfl)) ?_ | refine im_cons rfl (im_agg1 (.intss _)) ?_ | refine im_cons rfl (im_agg1 (.sls rfl)) ?_ | refine im_cons rfl (im_agg1 (.nil)) ?_ | refine im_cons rfl (im_agg1 (.nils)) ?_)); done))
  | (apply w_call (hw); exact rfl; exact rfl; focus ((repeat (first | exact im_nil | refine im_cons rfl (.val _) ?_ | refine im_cons rfl (.ints _) ?_ | refine im_cons rfl (.intss _) ?_ | refine im_cons rfl (.sli rfl) ?_ | refine im_cons rfl (.sls rfl) ?_ | refine im_cons rfl (.orow rfl) ?_ | refine im_cons rfl (.osub rfl (by simp; omega)) ?_ | refine im_cons rfl (.nil) ?_ | refine im_cons rfl (.nils) ?_ | refine im_cons rfl (im_agg2 (.val _) (.ints _)) ?_ | refine im_cons rfl (im_agg2 (.val _) (.sli rfl)) ?_ | refine im_cons rfl (im_agg2 (.val _) (.nil)) ?_ | refine im_cons rfl (im_agg2 (.ints _) (.intss _)) ?_ | refine im_cons rfl (im_agg2 (.ints _) (.sls rfl)) ?_ | refine im_cons rfl (im_agg2 (.sli rfl) (.intss _)) ?_ | refine im_cons rfl (im_agg2 (.sli rfl) (.sls rfl)) ?_ | refine im_cons rfl (im_agg1 (.ints _)) ?_ | refine im_cons rfl (im_agg1 (.sli rfl)) ?_ | refine im_cons rfl (im_agg1 (.intss _)) ?_ | refine im_cons rfl (im_agg1 (.sls rfl)) ?_ | refine im_cons rfl (im_agg1 (.nil)) ?_ | refine im_cons rfl (im_agg1 (.nils)) ?_)); done))
  | omega
  | ((first | apply w_lss | apply w_leq | apply w_gtr | apply w_geq | apply w_eql | apply w_neq | apply w_add | apply w_sub | apply w_mul | apply w_idx | apply w_ld | apply w_fld | apply w_fa | apply w_extv | apply w_min | apply w_max | apply w_slhi | apply w_sllo | apply w_bs2); iterate 3 exact rfl)
  | ((first | apply w_eqlb | apply w_neqb | apply w_idxs | apply w_lds | apply w_ext); iterate 3 exact rfl)
  | (apply w_rem; exact rfl; exact rfl; exact rfl; (focus (omega; done)); (focus (omega; done)))
  | (apply w_quo; exact rfl; exact rfl; exact rfl; (focus (omega; done)); (focus (omega; done)))
  | (apply w_remT; exact rfl; exact rfl; exact rfl)
  | (apply w_quoT; exact rfl; exact rfl; exact rfl)
  | ((first | apply w_not | apply w_neg | apply w_conv | apply w_build0 | apply w_bs1 | apply w_boxa); iterate 2 exact rfl)
  | (apply w_idxo; exact rfl; exact rfl; (first | exact .sli rfl | exact .sls rfl | exact .slr rfl); exact rfl)
  | ((first | apply w_idxr | apply w_ldr); iterate 4 exact rfl)
  | (apply w_ldo; iterate 4 exact rfl)
  | (apply w_ldls; iterate 4 exact rfl)
  | (apply w_ldrp; iterate 4 exact rfl)
  | (apply w_ldb; iterate 5 exact rfl)
  | (apply w_ldst; iterate 5 exact rfl)
  | ((first | apply w_sllh | apply w_stbi); iterate 4 exact rfl)
  | ((first | apply w_oslo | apply w_oshi | apply w_stbii); iterate 4 exact rfl)
  | (apply w_build1; exact rfl; exact rfl; (first | exact one_val rfl rfl | exact one_ints | exact one_intss | exact one_own rfl True.intro))
  | (apply w_build2; exact rfl; exact rfl; exact rfl; (first | exact one_val rfl rfl | exact one_ints | exact one_intss | exact one_own rfl True.intro); (first | exact one_val rfl rfl | exact one_ints | exact one_intss | exact one_own rfl True.intro))
  | (apply w_bs0; iterate 1 exact rfl)
  | (apply w_appn; exact rfl; exact rfl; (first | exact .ints _ | exact .sli rfl | exact .orow rfl | exact .nil | exact .osub rfl (by simp; omega)); exact rfl)
  | (apply w_app; exact rfl; exact rfl; exact rfl; exact rfl; (first | exact .ints _ | exact .sli rfl | exact .orow rfl | exact .nil | exact .osub rfl (by simp; omega)); rotate_left 1; simp only [Env.mp, List.map_cons, List.map_nil, List.set_cons_zero, List.set_cons_succ, AV.kill, AV.kill1, AO.kill, AV.noRow, AV.noRow1, AO.via, reduceIte, Nat.reduceEqDiff, Nat.reduceLT, Env.up, Nat.zero_ne_one, Nat.one_ne_zero, Nat.reduceAdd, List.cons_append, List.nil_append]; rotate_left 1)
  | (apply w_alst; iterate 2 exact rfl)
  | (apply w_alone; iterate 3 exact rfl)
  | (apply w_mki; exact rfl; exact rfl; rotate_left 3; exact rfl; rotate_left 1)
  | (apply w_sti; exact rfl; exact rfl; rotate_left 1; exact rfl; rotate_left 2)
  | (apply w_stst; iterate 5 exact rfl)
  | (apply w_stbv; iterate 6 exact rfl)
  | (apply w_stbo; exact rfl; exact rfl; exact rfl; exact rfl; exact rfl; exact True.intro)
  | ((apply AOps.splitB; exact rfl; exact rfl) <;> intro h)
  | apply AllOf.nil
  | (apply AllOf.cons; exact rfl)
  | (apply AAny.take; exact rfl; exact rfl; kernel_rfl; kernel_rfl)
  | (apply AAny.all; exact rfl)
  | (apply AAny.done; exact rfl)
  | (apply inI_of <;> omega)
  | omega
  | (simp <;> omega))
        all_goals exact .bool Try.results39 rfl (by simp_all)
      · rw [decide_eq_false g2] at ha
        repeat' (first
  | (apply AOps.nil; try simp only [List.nil_append, List.cons_append, List.set_cons_zero, List.set_cons_succ, List.length_cons, List.length_nil, Nat.reduceAdd, AV.sh, AV.sh1, AV.sh0, AO.sh, List.map_cons, List.map_nil, Nat.zero_add, Nat.add_zero, setAll])
  | ((apply AOps.splitP; exact rfl; exact rfl) <;> intro h)
  | ((apply AOps.splitN; exact rfl; exact rfl) <;> intro h)
  | (apply w_move; exact rfl; exact rfl)
  | (apply w_assign; exact rfl; exact rfl)
  | apply AWp.seq
  | apply AWp.region
  | ((apply AWp.condP; exact rfl) <;> intro h)
  | ((apply AWp.condN; exact rfl) <;> intro h)
  | (apply AWp.condT; exact rfl)
  | (apply AWp.condF; exact rfl)
  | ((apply AWp.condB; exact rfl) <;> intro h)
  | apply AWp.block
  | apply AWp.ret
  | apply AWp.exit
  | apply AWp.skip
  | (apply AWp.regionQ; kernel_rfl; kernel_rfl)
  | (apply if_pos'; exact rfl)
  | (apply if_neg'; decide)
  | (apply w_skip; exact rfl)
  | (apply w_pickT; exact rfl; exact rfl; exact rfl)
  | (apply w_pickF; exact rfl; exact rfl; exact rfl)
  | (apply w_len; exact rfl; exact rfl; first | exact .ints _ | exact .intss _ | exact .sli rfl | exact .sls rfl | exact .slr rfl | exact .orow rfl | exact .nil)
  | (apply w_call (inRange_c _ _ _); exact rfl; exact rfl; focus ((repeat (first | exact im_nil | refine im_cons rfl (.val _) ?_ | refine im_cons rfl (.ints _) ?_ | refine im_cons rfl (.intss _) ?_ | refine im_cons rfl (.sli rfl) ?_ | refine im_cons rfl (.sls rfl) ?_ | refine im_cons rfl (.orow rfl) ?_ | refine im_cons rfl (.osub rfl (by simp; omega)) ?_ | refine im_cons rfl (.nil) ?_ | refine im_cons rfl (.nils) ?_ | refine im_cons rfl (im_agg2 (.val _) (.ints _)) ?_ | refine im_cons rfl (im_agg2 (.val _) (.sli rfl)) ?_ | refine im_cons rfl (im_agg2 (.val _) (.nil)) ?_ | refine im_cons rfl (im_agg2 (.ints _) (.intss _)) ?_ | refine im_cons rfl (im_agg2 (.ints _) (.sls rfl)) ?_ | refine im_cons rfl (im_agg2 (.sli rfl) (.intss _)) ?_ | refine im_cons rfl (im_agg2 (.sli rfl) (.sls rfl)) ?_ | refine im_cons rfl (im_agg1 (.ints _)) ?_ | refine im_cons rfl (im_agg1 (.sli rfl)) ?_ | refine im_cons rfl (im_agg1 (.intss _)) ?_ | refine im_cons rfl (im_agg1 (.sls rfl)) ?_ | refine im_cons rfl (im_agg1 (.nil)) ?_ | refine im_cons rfl (im_agg1 (.nils)) ?_)); done))
  | (apply w_call (ha); exact rfl; exact rfl; focus ((repeat (first | exact im_nil | refine im_cons rfl (.val _) ?_ | refine im_cons rfl (.ints _) ?_ | refine im_cons rfl (.intss _) ?_ | refine im_cons rfl (.sli rfl) ?_ | refine im_cons rfl (.sls rfl) ?_ | refine im_cons rfl (.orow rfl) ?_ | refine im_cons rfl (.osub rfl (by simp; omega)) ?_ | refine im_cons rfl (.nil) ?_ | refine im_cons rfl (.nils) ?_ | refine im_cons rfl (im_agg2 (.val _) (.ints _)) ?_ | refine im_cons rfl (im_agg2 (.val _) (.sli rfl)) ?_ | refine im_cons rfl (im_agg2 (.val _) (.nil)) ?_ | refine im_cons rfl (im_agg2 (.ints _) (.intss _)) ?_ | refine im_cons rfl (im_agg2 (.ints _) (.sls rfl)) ?_ | refine im_cons rfl (im_agg2 (.sli rfl) (.intss _)) ?_ | refine im_cons rfl (im_agg2 (.sli rfl) (.sls rfl)) ?_ | refine im_cons rfl (im_agg1 (.ints _)) ?_ | refine im_cons rfl (im_agg1 (.sli rfl)) ?_ | refine im_cons rfl (im_agg1 (.intss _)) ?_ | refine im_cons rfl (im_agg1 (.sls rfl)) ?_ | refine im_cons rfl (im_agg1 (.nil)) ?_ | refine im_cons rfl (im_agg1 (.nils)) ?_)); done))
  | omega
  | ((first | apply w_lss | apply w_leq | apply w_gtr | apply w_geq | apply w_eql | apply w_neq | apply w_add | apply w_sub | apply w_mul | apply w_idx | apply w_ld | apply w_fld | apply w_fa | apply w_extv | apply w_min | apply w_max | apply w_slhi | apply w_sllo | apply w_bs2); iterate 3 exact rfl)
  | ((first | apply w_eqlb | apply w_neqb | apply w_idxs | apply w_lds | apply w_ext); iterate 3 exact rfl)
  | (apply w_rem; exact rfl; exact rfl; exact rfl; (focus (omega; done)); (focus (omega; done)))
  | (apply w_quo; exact rfl; exact rfl; exact rfl; (focus (omega; done)); (focus (omega; done)))
  | (apply w_remT; exact rfl; exact rfl; exact rfl)
  | (apply w_quoT; exact rfl; exact rfl; exact rfl)
  | ((first | apply w_not | apply w_neg | apply w_conv | apply w_build0 | apply w_bs1 | apply w_boxa); iterate 2 exact rfl)
  | (apply w_idxo; exact rfl; exact rfl; (first | exact .sli rfl | exact .sls rfl | exact .slr rfl); exact rfl)
  | ((first | apply w_idxr | apply w_ldr); iterate 4 exact rfl)
  | (apply w_ldo; iterate 4 exact rfl)
  | (apply w_ldls; iterate 4 exact rfl)
  | (apply w_ldrp; iterate 4 exact rfl)
  | (apply w_ldb; iterate 5 exact rfl)
  | (apply w_ldst; iterate 5 exact rfl)
  | ((first | apply w_sllh | apply w_stbi); iterate 4 exact rfl)
  | ((first | apply w_oslo | apply w_oshi | apply w_stbii); iterate 4 exact rfl)
  | (apply w_build1; exact rfl; exact rfl; (first | exact one_val rfl rfl | exact one_ints | exact one_intss | exact one_own rfl True.intro))
  | (apply w_build2; exact rfl; exact rfl; exact rfl; (first | exact one_val rfl rfl | exact one_ints | exact one_intss | exact one_own rfl True.intro); (first | exact one_val rfl rfl | exact one_ints | exact one_intss | exact one_own rfl True.intro))
  | (apply w_bs0; iterate 1 exact rfl)
  | (apply w_appn; exact rfl; exact rfl; (first | exact .ints _ | exact .sli rfl | exact .orow rfl | exact .nil | exact .osub rfl (by simp; omega)); exact rfl)
  | (apply w_app; exact rfl; exact rfl; exact rfl; exact rfl; (first | exact .ints _ | exact .sli rfl | exact .orow rfl | exact .nil | exact .osub rfl (by simp; omega)); rotate_left 1; simp only [Env.mp, List.map_cons, List.map_nil, List.set_cons_zero, List.set_cons_succ, AV.kill, AV.kill1, AO.kill, AV.noRow, AV.noRow1, AO.via, reduceIte, Nat.reduceEqDiff, Nat.reduceLT, Env.up, Nat.zero_ne_one, Nat.one_ne_zero, Nat.reduceAdd, List.cons_append, List.nil_append]; rotate_left 1)
  | (apply w_alst; iterate 2 exact rfl)
  | (apply w_alone; iterate 3 exact rfl)
  | (apply w_mki; exact rfl; exact rfl; rotate_left 3; exact rfl; rotate_left 1)
  | (apply w_sti; exact rfl; exact rfl; rotate_left 1; exact rfl; rotate_left 2)
  | (apply w_stst; iterate 5 exact rfl)
  | (apply w_stbv; iterate 6 exact rfl)
  | (apply w_stbo; exact rfl; exact rfl; exact rfl; exact rfl; exact rfl; exact True.intro)
  | ((apply AOps.splitB; exact rfl; exact rfl) <;> intro h)
  | apply AllOf.nil
  | (apply AllOf.cons; exact rfl)
  | (apply AAny.take; exact rfl; exact rfl; kernel_rfl; kernel_rfl)
  | (apply AAny.all; exact rfl)
  | (apply AAny.done; exact rfl)
  | (apply inI_of <;> omega)
  | omega
  | (simp <;> omega))
        all_goals exact .bool Try.results39 rfl (by simp_all)
    · repeat' (first
  | (apply AOps.nil; try simp only [List.nil_append, List.cons_append, List.set_cons_zero, List.set_cons_succ, List.length_cons, List.length_nil, Nat.reduceAdd, AV.sh, AV.sh1, AV.sh0, AO.sh, List.map_cons, List.map_nil, Nat.zero_add, Nat.add_zero, setAll])
  | ((apply AOps.splitP; exact rfl; exact rfl) <;> intro h)
  | ((apply AOps.splitN; exact rfl; exact rfl) <;> intro h)
  | (apply w_move; exact rfl; exact rfl)
  | (apply w_assign; exact rfl; exact rfl)
  | apply AWp.seq
  | apply AWp.region
  | ((apply AWp.condP; exact rfl) <;> intro h)
  | ((apply AWp.condN; exact rfl) <;> intro h)
  | (apply AWp.condT; exact rfl)
  | (apply AWp.condF; exact rfl)
  | ((apply AWp.condB; exact rfl) <;> intro h)
  | apply AWp.block
  | apply AWp.ret
  | apply AWp.exit
  | apply AWp.skip
  | (apply AWp.regionQ; kernel_rfl; kernel_rfl)
  | (apply if_pos'; exact rfl)
  | (apply if_neg'; decide)
  | (apply w_skip; exact rfl)
  | (apply w_pickT; exact rfl; exact rfl; exact rfl)
  | (apply w_pickF; exact rfl; exact rfl; exact rfl)
  | (apply w_len; exact rfl; exact rfl; first | exact .ints _ | exact .intss _ | exact .sli rfl | exact .sls rfl | exact .slr rfl | exact .orow rfl | exact .nil)
  | (apply w_call (inRange_c _ _ _); exact rfl; exact rfl; focus ((repeat (first | exact im_nil | refine im_cons rfl (.val _) ?_ | refine im_cons rfl (.ints _) ?_ | refine im_cons rfl (.intss _) ?_ | refine im_cons rfl (.sli rfl) ?_ | refine im_cons rfl (.sls rfl) ?_ | refine im_cons rfl (.orow rfl) ?_ | refine im_cons rfl (.osub rfl (by simp; omega)) ?_ | refine im_cons rfl (.nil) ?_ | refine im_cons rfl (.nils) ?_ | refine im_cons rfl (im_agg2 (.val _) (.ints _)) ?_ | refine im_cons rfl (im_agg2 (.val _) (.sli rfl)) ?_ | refine im_cons rfl (im_agg2 (.val _) (.nil)) ?_ | refine im_cons rfl (im_agg2 (.ints _) (.intss _)) ?_ | refine im_cons rfl (im_agg2 (.ints _) (.sls rfl)) ?_ | refine im_cons rfl (im_agg2 (.sli rfl) (.intss _)) ?_ | refine im_cons rfl (im_agg2 (.sli rfl) (.sls rfl)) ?_ | refine im_cons rfl (im_agg1 (.ints _)) ?_ | refine im_cons rfl (im_agg1 (.sli rfl)) ?_ | refine im_cons rfl (im_agg1 (.intss _)) ?_ | refine im_cons rfl (im_agg1 (.sls rfl)) ?_ | refine im_cons rfl (im_agg1 (.nil)) ?_ | refine im_cons rfl (im_agg1 (.nils)) ?_)); done))
  | omega
  | ((first | apply w_lss | apply w_leq | apply w_gtr | apply w_geq | apply w_eql | apply w_neq | apply w_add | apply w_sub | apply w_mul | apply w_idx | apply w_ld | apply w_fld | apply w_fa | apply w_extv | apply w_min | apply w_max | apply w_slhi | apply w_sllo | apply w_bs2); iterate 3 exact rfl)
  | ((first | apply w_eqlb | apply w_neqb | apply w_idxs | apply w_lds | apply w_ext); iterate 3 exact rfl)
  | (apply w_rem; exact rfl; exact rfl; exact rfl; (focus (omega; done)); (focus (omega; done)))
  | (apply w_quo; exact rfl; exact rfl; exact rfl; (focus (omega; done)); (focus (omega; done)))
  | (apply w_remT; exact rfl; exact rfl; exact rfl)
  | (apply w_quoT; exact rfl; exact rfl; exact rfl)
  | ((first | apply w_not | apply w_neg | apply w_conv | apply w_build0 | apply w_bs1 | apply w_boxa); iterate 2 exact rfl)
  | (apply w_idxo; exact rfl; exact rfl; (first | exact .sli rfl | exact .sls rfl | exact .slr rfl); exact rfl)
  | ((first | apply w_idxr | apply w_ldr); iterate 4 exact rfl)
  | (apply w_ldo; iterate 4 exact rfl)
  | (apply w_ldls; iterate 4 exact rfl)
  | (apply w_ldrp; iterate 4 exact rfl)
  | (apply w_ldb; iterate 5 exact rfl)
  | (apply w_ldst; iterate 5 exact rfl)
  | ((first | apply w_sllh | apply w_stbi); iterate 4 exact rfl)
  | ((first | apply w_oslo | apply w_oshi | apply w_stbii); iterate 4 exact rfl)
  | (apply w_build1; exact rfl; exact rfl; (first | exact one_val rfl rfl | exact one_ints | exact one_intss | exact one_own rfl True.intro))
  | (apply w_build2; exact rfl; exact rfl; exact rfl; (first | exact one_val rfl rfl | exact one_ints | exact one_intss | exact one_own rfl True.intro); (first | exact one_val rfl rfl | exact one_ints | exact one_intss | exact one_own rfl True.intro))
  | (apply w_bs0; iterate 1 exact rfl)
  | (apply w_appn; exact rfl; exact rfl; (first | exact .ints _ | exact .sli rfl | exact .orow rfl | exact .nil | exact .osub rfl (by simp; omega)); exact rfl)
  | (apply w_app; exact rfl; exact rfl; exact rfl; exact rfl; (first | exact .ints _ | exact .sli rfl | exact .orow rfl | exact .nil | exact .osub rfl (by simp; omega)); rotate_left 1; simp only [Env.mp, List.map_cons, List.map_nil, List.set_cons_zero, List.set_cons_succ, AV.kill, AV.kill1, AO.kill, AV.noRow, AV.noRow1, AO.via, reduceIte, Nat.reduceEqDiff, Nat.reduceLT, Env.up, Nat.zero_ne_one, Nat.one_ne_zero, Nat.reduceAdd, List.cons_append, List.nil_append]; rotate_left 1)
  | (apply w_alst; iterate 2 exact rfl)
  | (apply w_alone; iterate 3 exact rfl)
  | (apply w_mki; exact rfl; exact rfl; rotate_left 3; exact rfl; rotate_left 1)
  | (apply w_sti; exact rfl; exact rfl; rotate_left 1; exact rfl; rotate_left 2)
  | (apply w_stst; iterate 5 exact rfl)
  | (apply w_stbv; iterate 6 exact rfl)
  | (apply w_stbo; exact rfl; exact rfl; exact rfl; exact rfl; exact rfl; exact True.intro)
  | ((apply AOps.splitB; exact rfl; exact rfl) <;> intro h)
  | apply AllOf.nil
  | (apply AllOf.cons; exact rfl)
  | (apply AAny.take; exact rfl; exact rfl; kernel_rfl; kernel_rfl)
  | (apply AAny.all; exact rfl)
  | (apply AAny.done; exact rfl)
  | (apply inI_of <;> omega)
  | omega
  | (simp <;> omega))
      all_goals exact .bool Try.results39 rfl (by simp_all)
end Go.Proofs.Ytpllbdjobmgikaa
/-
  Branches: the reference's test; parametrisations of branches. No condition.
-/
namespace Go.Proofs.Ytpllbdjobmgikaa
open Go Go.RowKit
attribute [local irreducible] AWp AOps ResIs Ret1 QOp LOp COp AFnV AFn Imms LeE LeO
set_option maxHeartbeats 1000000
set_option linter.unusedSimpArgs false
set_option linter.unusedVariables false

/-- What the reference's loop has seen at j. -/
def BR (xs : List Int) (j : Nat) : Prop := geti xs ((j : Int) - 1) + 1 ≤ geti xs j ∧ geti xs j ≤ 2000 ∧ gd xs (j + 1) ≠ gd xs j

theorem isBr_of {xs : List Int} (h : isBr xs = true) : (0 : Int) < xs.length ∧ (1 ≤ geti xs 0 ∧ geti xs 0 ≤ 64) ∧ Asc xs ∧ withinL xs 1 2000 = true ∧ Fal xs := by
  simp only [isBr, Bool.and_eq_true, decide_eq_true_eq] at h
  exact ⟨h.1.1.1.1, h.1.1.1.2, h.1.1.2, h.1.2, h.2⟩
theorem isBr_br {xs : List Int} (h : isBr xs = true) {i : Nat} (h0 : 0 < i) (hi : i < xs.length) : BR xs i := by
  obtain ⟨_, _, g3, g4, g5⟩ := isBr_of h
  have a := g3 i h0 hi
  have b := withinL_get g4 i hi
  have c := g5.1 i h0 hi
  exact ⟨by omega, b.2, by omega⟩
theorem isBr_bad {xs : List Int} (h : ¬ ((0 : Int) < xs.length ∧ (1 ≤ geti xs 0 ∧ geti xs 0 ≤ 64))) : false = isBr xs := by
  symm
  rw [Bool.eq_false_iff]
  intro hb
  have := isBr_of hb
  exact h ⟨this.1, this.2.1⟩
theorem isBr_bad2 {xs : List Int} {i : Nat} (h0 : 0 < i) (hi : i < xs.length) (h : ¬ BR xs i) : false = isBr xs := by
  symm
  rw [Bool.eq_false_iff]
  exact fun hb => h (isBr_br hb h0 hi)
theorem gd_one {xs : List Int} (h : 1 ≤ geti xs 0) : gd xs 1 = geti xs 0 := by
  show (Int.gcd 0 (geti xs ((0 : Nat) : Int)) : Int) = geti xs 0
  rw [Int.gcd_zero_left]
  simp only [Int.natCast_zero]
  omega
theorem within_all {xs : List Int} {a b : Int} (h : ∀ j : Nat, j < xs.length → a ≤ geti xs j ∧ geti xs j ≤ b) : withinL xs a b = true := by
  unfold withinL
  rw [List.all_eq_true]
  intro x hx
  obtain ⟨j, hj, rfl⟩ := List.getElem_of_mem hx
  have := h j hj
  simpa [geti, hj] using this
theorem isBr_end {xs : List Int} (hp : (0 : Int) < xs.length) (h0 : 1 ≤ geti xs 0 ∧ geti xs 0 ≤ 64) (h1 : ∀ j : Nat, j < xs.length → 1 ≤ geti xs j ∧ geti xs j ≤ 2000) (h2 : ∀ j : Nat, 0 < j → j < xs.length → BR xs j) (h3 : ∀ j : Nat, 0 < j → j ≤ xs.length → 1 ≤ gd xs j) :
    decide (gd xs xs.length = 1) = isBr xs := by
  have a : Asc xs := fun i i0 i1 => by have := (h2 i i0 i1).1; omega
  have b : withinL xs 1 2000 = true := within_all h1
  have c : ∀ i : Nat, 0 < i → i < xs.length → gd xs (i + 1) < gd xs i := fun i i0 i1 => by
    have d := (h2 i i0 i1).2.2
    have e := (gd_step (h3 i i0 (by omega))).2
    omega
  rw [Bool.eq_iff_iff]
  constructor
  · intro h
    have h := of_decide_eq_true h
    have d : Fal xs := ⟨c, h⟩
    have hp' : 0 < xs.length := by omega
    simp [isBr, hp', h0, a, b, d]
  · intro h
    exact decide_eq_true (isBr_of h).2.2.2.2.2

theorem l03Is_c (xs : List Int) : AFnV Try.prog 35 [.agg [.ints xs]] (.bool (isBr xs)) := by
  (refine AFnV.start Try.func35 Try.ntmps35 rfl (by kernel_rfl) fun hk0 => ?_; simp only [Env.start, enumF, List.length_cons, List.length_nil, Nat.reduceAdd, Nat.reduceSub, List.cons_append, List.nil_append])
  have hk := hk0 _ (List.mem_cons_self ..)
  obtain ⟨hk, hl⟩ := hk (.ints xs) (by simp)
  by_cases hg : (0 : Int) < xs.length ∧ (1 ≤ geti xs 0 ∧ geti xs 0 ≤ 64)
  · obtain ⟨g1, g2⟩ := hg
    have e1 := gd_one g2.1
    repeat' (first
  | (apply AOps.nil; try simp only [List.nil_append, List.cons_append, List.set_cons_zero, List.set_cons_succ, List.length_cons, List.length_nil, Nat.reduceAdd, AV.sh, AV.sh1, AV.sh0, AO.sh, List.map_cons, List.map_nil, Nat.zero_add, Nat.add_zero, setAll])
  | ((apply AOps.splitP; exact rfl; exact rfl) <;> intro h)
  | ((apply AOps.splitN; exact rfl; exact rfl) <;> intro h)
  | (apply w_move; exact rfl; exact rfl)
  | (apply w_assign; exact rfl; exact rfl)
  | apply AWp.seq
  | apply AWp.region
  | ((apply AWp.condP; exact rfl) <;> intro h)
  | ((apply AWp.condN; exact rfl) <;> intro h)
  | (apply AWp.condT; exact rfl)
  | (apply AWp.condF; exact rfl)
  | ((apply AWp.condB; exact rfl) <;> intro h)
  | apply AWp.block
  | apply AWp.ret
  | apply AWp.exit
  | apply AWp.skip
  | (apply AWp.regionQ; kernel_rfl; kernel_rfl)
  | (apply if_pos'; exact rfl)
  | (apply if_neg'; decide)
  | (apply w_skip; exact rfl)
  | (apply w_pickT; exact rfl; exact rfl; exact rfl)
  | (apply w_pickF; exact rfl; exact rfl; exact rfl)
  | (apply w_len; exact rfl; exact rfl; first | exact .ints _ | exact .intss _ | exact .sli rfl | exact .sls rfl | exact .slr rfl | exact .orow rfl | exact .nil)
  | (apply w_call (l01In_c _ _ _); exact rfl; exact rfl; focus ((repeat (first | exact im_nil | refine im_cons rfl (.val _) ?_ | refine im_cons rfl (.ints _) ?_ | refine im_cons rfl (.intss _) ?_ | refine im_cons rfl (.sli rfl) ?_ | refine im_cons rfl (.sls rfl) ?_ | refine im_cons rfl (.orow rfl) ?_ | refine im_cons rfl (.osub rfl (by simp; omega)) ?_ | refine im_cons rfl (.nil) ?_ | refine im_cons rfl (.nils) ?_ | refine im_cons rfl (im_agg2 (.val _) (.ints _)) ?_ | refine im_cons rfl (im_agg2 (.val _) (.sli rfl)) ?_ | refine im_cons rfl (im_agg2 (.val _) (.nil)) ?_ | refine im_cons rfl (im_agg2 (.ints _) (.intss _)) ?_ | refine im_cons rfl (im_agg2 (.ints _) (.sls rfl)) ?_ | refine im_cons rfl (im_agg2 (.sli rfl) (.intss _)) ?_ | refine im_cons rfl (im_agg2 (.sli rfl) (.sls rfl)) ?_ | refine im_cons rfl (im_agg1 (.ints _)) ?_ | refine im_cons rfl (im_agg1 (.sli rfl)) ?_ | refine im_cons rfl (im_agg1 (.intss _)) ?_ | refine im_cons rfl (im_agg1 (.sls rfl)) ?_ | refine im_cons rfl (im_agg1 (.nil)) ?_ | refine im_cons rfl (im_agg1 (.nils)) ?_)); done))
  | omega
  | ((first | apply w_lss | apply w_leq | apply w_gtr | apply w_geq | apply w_eql | apply w_neq | apply w_add | apply w_sub | apply w_mul | apply w_idx | apply w_ld | apply w_fld | apply w_fa | apply w_extv | apply w_min | apply w_max | apply w_slhi | apply w_sllo | apply w_bs2); iterate 3 exact rfl)
  | ((first | apply w_eqlb | apply w_neqb | apply w_idxs | apply w_lds | apply w_ext); iterate 3 exact rfl)
  | (apply w_rem; exact rfl; exact rfl; exact rfl; (focus (omega; done)); (focus (omega; done)))
  | (apply w_quo; exact rfl; exact rfl; exact rfl; (focus (omega; done)); (focus (omega; done)))
  | (apply w_remT; exact rfl; exact rfl; exact rfl)
  | (apply w_quoT; exact rfl; exact rfl; exact rfl)
  | ((first | apply w_not | apply w_neg | apply w_conv | apply w_build0 | apply w_bs1 | apply w_boxa); iterate 2 exact rfl)
  | (apply w_idxo; exact rfl; exact rfl; (first | exact .sli rfl | exact .sls rfl | exact .slr rfl); exact rfl)
  | ((first | apply w_idxr | apply w_ldr); iterate 4 exact rfl)
  | (apply w_ldo; iterate 4 exact rfl)
  | (apply w_ldls; iterate 4 exact rfl)
  | (apply w_ldrp; iterate 4 exact rfl)
  | (apply w_ldb; iterate 5 exact rfl)
  | (apply w_ldst; iterate 5 exact rfl)
  | ((first | apply w_sllh | apply w_stbi); iterate 4 exact rfl)
  | ((first | apply w_oslo | apply w_oshi | apply w_stbii); iterate 4 exact rfl)
  | (apply w_build1; exact rfl; exact rfl; (first | exact one_val rfl rfl | exact one_ints | exact one_intss | exact one_own rfl True.intro))
  | (apply w_build2; exact rfl; exact rfl; exact rfl; (first | exact one_val rfl rfl | exact one_ints | exact one_intss | exact one_own rfl True.intro); (first | exact one_val rfl rfl | exact one_ints | exact one_intss | exact one_own rfl True.intro))
  | (apply w_bs0; iterate 1 exact rfl)
  | (apply w_appn; exact rfl; exact rfl; (first | exact .ints _ | exact .sli rfl | exact .orow rfl | exact .nil | exact .osub rfl (by simp; omega)); exact rfl)
  | (apply w_app; exact rfl; exact rfl; exact rfl; exact rfl; (first | exact .ints _ | exact .sli rfl | exact .orow rfl | exact .nil | exact .osub rfl (by simp; omega)); rotate_left 1; simp only [Env.mp, List.map_cons, List.map_nil, List.set_cons_zero, List.set_cons_succ, AV.kill, AV.kill1, AO.kill, AV.noRow, AV.noRow1, AO.via, reduceIte, Nat.reduceEqDiff, Nat.reduceLT, Env.up, Nat.zero_ne_one, Nat.one_ne_zero, Nat.reduceAdd, List.cons_append, List.nil_append]; rotate_left 1)
  | (apply w_alst; iterate 2 exact rfl)
  | (apply w_alone; iterate 3 exact rfl)
  | (apply w_mki; exact rfl; exact rfl; rotate_left 3; exact rfl; rotate_left 1)
  | (apply w_sti; exact rfl; exact rfl; rotate_left 1; exact rfl; rotate_left 2)
  | (apply w_stst; iterate 5 exact rfl)
  | (apply w_stbv; iterate 6 exact rfl)
  | (apply w_stbo; exact rfl; exact rfl; exact rfl; exact rfl; exact rfl; exact True.intro)
  | ((apply AOps.splitB; exact rfl; exact rfl) <;> intro h)
  | apply AllOf.nil
  | (apply AllOf.cons; exact rfl)
  | (apply AAny.take; exact rfl; exact rfl; kernel_rfl; kernel_rfl)
  | (apply AAny.all; exact rfl)
  | (apply AAny.done; exact rfl)
  | (apply inI_of <;> omega)
  | omega
  | (simp <;> omega))
    refine AWp.loop (ι := Nat) (fun i => ⟨52, [(3, .ints xs), (4, .i (gd xs i)), (5, .i i)]⟩) (fun _ => []) (fun i => 1 ≤ i ∧ i ≤ xs.length ∧ (∀ j : Nat, 0 < j → j < i → BR xs j) ∧ (∀ j : Nat, j < i → 1 ≤ geti xs j ∧ geti xs j ≤ 2000) ∧ (∀ j : Nat, 0 < j → j ≤ i → 1 ≤ gd xs j ∧ gd xs j ≤ 64)) (fun i => xs.length - i) 1 ⟨by omega, by omega, fun j h1 h2 => by omega, fun j h1 => ?_, fun j h1 h2 => ?_⟩ ⟨lee rfl (by (repeat (first | exact le_nil | refine le_eq rfl rfl ?_ | refine le_eq rfl (congrArg AV.i (by omega)) ?_ | refine le_eq rfl (congrArg AV.i (e1.symm)) ?_))), by (repeat (first | exact lo_nil | refine lo_dead ?_ | refine lo_eq rfl ?_ | refine lo_eq (congrArg (AO.sli _) (e1.symm)) ?_ | refine lo_eq (congrArg (AO.sls _ _) (e1.symm)) ?_)), rfl, rfl⟩ ?_
    · obtain rfl : j = 0 := by omega
      simp only [Int.natCast_zero]; omega
    · obtain rfl : j = 1 := by omega
      rw [e1]; omega
    rintro i ⟨h0, h1, h2, h3, h4⟩
    have b1 := h3 (i - 1) (by omega)
    rw [show ((i - 1 : Nat) : Int) = (i : Int) - 1 by omega] at b1
    have b2 := h4 i (by omega) (by omega)
    have b3 := gd_step (xs := xs) (k := i) b2.1
    have b4 : gd xs (i + 1) = (Int.gcd (gd xs i) (geti xs i) : Int) := rfl
    by_cases hi : i < xs.length
    · by_cases hr : geti xs ((i : Int) - 1) + 1 ≤ geti xs i ∧ geti xs i ≤ 2000
      · have m1 : mid (gd xs i) := by unfold mid; omega
        have m2 : mid (geti xs i) := by unfold mid; omega
        repeat' (first
  | (apply AOps.nil; try simp only [List.nil_append, List.cons_append, List.set_cons_zero, List.set_cons_succ, List.length_cons, List.length_nil, Nat.reduceAdd, AV.sh, AV.sh1, AV.sh0, AO.sh, List.map_cons, List.map_nil, Nat.zero_add, Nat.add_zero, setAll])
  | ((apply AOps.splitP; exact rfl; exact rfl) <;> intro h)
  | ((apply AOps.splitN; exact rfl; exact rfl) <;> intro h)
  | (apply w_move; exact rfl; exact rfl)
  | (apply w_assign; exact rfl; exact rfl)
  | apply AWp.seq
  | apply AWp.region
  | ((apply AWp.condP; exact rfl) <;> intro h)
  | ((apply AWp.condN; exact rfl) <;> intro h)
  | (apply AWp.condT; exact rfl)
  | (apply AWp.condF; exact rfl)
  | ((apply AWp.condB; exact rfl) <;> intro h)
  | apply AWp.block
  | apply AWp.ret
  | apply AWp.exit
  | apply AWp.skip
  | (apply AWp.regionQ; kernel_rfl; kernel_rfl)
  | (apply if_pos'; exact rfl)
  | (apply if_neg'; decide)
  | (apply w_skip; exact rfl)
  | (apply w_pickT; exact rfl; exact rfl; exact rfl)
  | (apply w_pickF; exact rfl; exact rfl; exact rfl)
  | (apply w_len; exact rfl; exact rfl; first | exact .ints _ | exact .intss _ | exact .sli rfl | exact .sls rfl | exact .slr rfl | exact .orow rfl | exact .nil)
  | (apply w_call (l01In_c _ _ _); exact rfl; exact rfl; focus ((repeat (first | exact im_nil | refine im_cons rfl (.val _) ?_ | refine im_cons rfl (.ints _) ?_ | refine im_cons rfl (.intss _) ?_ | refine im_cons rfl (.sli rfl) ?_ | refine im_cons rfl (.sls rfl) ?_ | refine im_cons rfl (.orow rfl) ?_ | refine im_cons rfl (.osub rfl (by simp; omega)) ?_ | refine im_cons rfl (.nil) ?_ | refine im_cons rfl (.nils) ?_ | refine im_cons rfl (im_agg2 (.val _) (.ints _)) ?_ | refine im_cons rfl (im_agg2 (.val _) (.sli rfl)) ?_ | refine im_cons rfl (im_agg2 (.val _) (.nil)) ?_ | refine im_cons rfl (im_agg2 (.ints _) (.intss _)) ?_ | refine im_cons rfl (im_agg2 (.ints _) (.sls rfl)) ?_ | refine im_cons rfl (im_agg2 (.sli rfl) (.intss _)) ?_ | refine im_cons rfl (im_agg2 (.sli rfl) (.sls rfl)) ?_ | refine im_cons rfl (im_agg1 (.ints _)) ?_ | refine im_cons rfl (im_agg1 (.sli rfl)) ?_ | refine im_cons rfl (im_agg1 (.intss _)) ?_ | refine im_cons rfl (im_agg1 (.sls rfl)) ?_ | refine im_cons rfl (im_agg1 (.nil)) ?_ | refine im_cons rfl (im_agg1 (.nils)) ?_)); done))
  | (apply w_call (l01Gcd_c _ _ m1 m2); exact rfl; exact rfl; focus ((repeat (first | exact im_nil | refine im_cons rfl (.val _) ?_ | refine im_cons rfl (.ints _) ?_ | refine im_cons rfl (.intss _) ?_ | refine im_cons rfl (.sli rfl) ?_ | refine im_cons rfl (.sls rfl) ?_ | refine im_cons rfl (.orow rfl) ?_ | refine im_cons rfl (.osub rfl (by simp; omega)) ?_ | refine im_cons rfl (.nil) ?_ | refine im_cons rfl (.nils) ?_ | refine im_cons rfl (im_agg2 (.val _) (.ints _)) ?_ | refine im_cons rfl (im_agg2 (.val _) (.sli rfl)) ?_ | refine im_cons rfl (im_agg2 (.val _) (.nil)) ?_ | refine im_cons rfl (im_agg2 (.ints _) (.intss _)) ?_ | refine im_cons rfl (im_agg2 (.ints _) (.sls rfl)) ?_ | refine im_cons rfl (im_agg2 (.sli rfl) (.intss _)) ?_ | refine im_cons rfl (im_agg2 (.sli rfl) (.sls rfl)) ?_ | refine im_cons rfl (im_agg1 (.ints _)) ?_ | refine im_cons rfl (im_agg1 (.sli rfl)) ?_ | refine im_cons rfl (im_agg1 (.intss _)) ?_ | refine im_cons rfl (im_agg1 (.sls rfl)) ?_ | refine im_cons rfl (im_agg1 (.nil)) ?_ | refine im_cons rfl (im_agg1 (.nils)) ?_)); done))
  | omega
  | ((first | apply w_lss | apply w_leq | apply w_gtr | apply w_geq | apply w_eql | apply w_neq | apply w_add | apply w_sub | apply w_mul | apply w_idx | apply w_ld | apply w_fld | apply w_fa | apply w_extv | apply w_min | apply w_max | apply w_slhi | apply w_sllo | apply w_bs2); iterate 3 exact rfl)
  | ((first | apply w_eqlb | apply w_neqb | apply w_idxs | apply w_lds | apply w_ext); iterate 3 exact rfl)
  | (apply w_rem; exact rfl; exact rfl; exact rfl; (focus (omega; done)); (focus (omega; done)))
  | (apply w_quo; exact rfl; exact rfl; exact rfl; (focus (omega; done)); (focus (omega; done)))
  | (apply w_remT; exact rfl; exact rfl; exact rfl)
  | (apply w_quoT; exact rfl; exact rfl; exact rfl)
  | ((first | apply w_not | apply w_neg | apply w_conv | apply w_build0 | apply w_bs1 | apply w_boxa); iterate 2 exact rfl)
  | (apply w_idxo; exact rfl; exact rfl; (first | exact .sli rfl | exact .sls rfl | exact .slr rfl); exact rfl)
  | ((first | apply w_idxr | apply w_ldr); iterate 4 exact rfl)
  | (apply w_ldo; iterate 4 exact rfl)
  | (apply w_ldls; iterate 4 exact rfl)
  | (apply w_ldrp; iterate 4 exact rfl)
  | (apply w_ldb; iterate 5 exact rfl)
  | (apply w_ldst; iterate 5 exact rfl)
  | ((first | apply w_sllh | apply w_stbi); iterate 4 exact rfl)
  | ((first | apply w_oslo | apply w_oshi | apply w_stbii); iterate 4 exact rfl)
  | (apply w_build1; exact rfl; exact rfl; (first | exact one_val rfl rfl | exact one_ints | exact one_intss | exact one_own rfl True.intro))
  | (apply w_build2; exact rfl; exact rfl; exact rfl; (first | exact one_val rfl rfl | exact one_ints | exact one_intss | exact one_own rfl True.intro); (first | exact one_val rfl rfl | exact one_ints | exact one_intss | exact one_own rfl True.intro))
  | (apply w_bs0; iterate 1 exact rfl)
  | (apply w_appn; exact rfl; exact rfl; (first | exact .ints _ | exact .sli rfl | exact .orow rfl | exact .nil | exact .osub rfl (by simp; omega)); exact rfl)
  | (apply w_app; exact rfl; exact rfl; exact rfl; exact rfl; (first | exact .ints _ | exact .sli rfl | exact .orow rfl | exact .nil | exact .osub rfl (by simp; omega)); rotate_left 1; simp only [Env.mp, List.map_cons, List.map_nil, List.set_cons_zero, List.set_cons_succ, AV.kill, AV.kill1, AO.kill, AV.noRow, AV.noRow1, AO.via, reduceIte, Nat.reduceEqDiff, Nat.reduceLT, Env.up, Nat.zero_ne_one, Nat.one_ne_zero, Nat.reduceAdd, List.cons_append, List.nil_append]; rotate_left 1)
  | (apply w_alst; iterate 2 exact rfl)
  | (apply w_alone; iterate 3 exact rfl)
  | (apply w_mki; exact rfl; exact rfl; rotate_left 3; exact rfl; rotate_left 1)
  | (apply w_sti; exact rfl; exact rfl; rotate_left 1; exact rfl; rotate_left 2)
  | (apply w_stst; iterate 5 exact rfl)
  | (apply w_stbv; iterate 6 exact rfl)
  | (apply w_stbo; exact rfl; exact rfl; exact rfl; exact rfl; exact rfl; exact True.intro)
  | ((apply AOps.splitB; exact rfl; exact rfl) <;> intro h)
  | apply AllOf.nil
  | (apply AllOf.cons; exact rfl)
  | (apply AAny.take; exact rfl; exact rfl; kernel_rfl; kernel_rfl)
  | (apply AAny.all; exact rfl)
  | (apply AAny.done; exact rfl)
  | (apply inI_of <;> omega)
  | omega
  | (simp <;> omega))
        · exact .bool Try.results35 rfl (isBr_bad2 (i := i) (by omega) hi fun hz => hz.2.2 (by rw [b4]; assumption))
        · refine ⟨i + 1, ⟨by omega, by omega, fun j k1 k2 => ?_, fun j k1 => ?_, fun j k1 k2 => ?_⟩, by omega, ⟨lee rfl (by (repeat (first | exact le_nil | refine le_eq rfl rfl ?_ | refine le_eq rfl (congrArg AV.i (by omega)) ?_ | refine le_eq rfl (congrArg AV.i (b4.symm)) ?_))), by (repeat (first | exact lo_nil | refine lo_dead ?_ | refine lo_eq rfl ?_ | refine lo_eq (congrArg (AO.sli _) (b4.symm)) ?_ | refine lo_eq (congrArg (AO.sls _ _) (b4.symm)) ?_)), rfl, rfl⟩⟩
          · by_cases e : j = i
            · subst e; exact ⟨hr.1, hr.2, by rw [b4]; assumption⟩
            · exact h2 j k1 (by omega)
          · by_cases e : j = i
            · subst e; omega
            · exact h3 j (by omega)
          · by_cases e : j = i + 1
            · subst e; omega
            · exact h4 j k1 (by omega)
      · repeat' (first
  | (apply AOps.nil; try simp only [List.nil_append, List.cons_append, List.set_cons_zero, List.set_cons_succ, List.length_cons, List.length_nil, Nat.reduceAdd, AV.sh, AV.sh1, AV.sh0, AO.sh, List.map_cons, List.map_nil, Nat.zero_add, Nat.add_zero, setAll])
  | ((apply AOps.splitP; exact rfl; exact rfl) <;> intro h)
  | ((apply AOps.splitN; exact rfl; exact rfl) <;> intro h)
  | (apply w_move; exact rfl; exact rfl)
  | (apply w_assign; exact rfl; exact rfl)
  | apply AWp.seq
  | apply AWp.region
  | ((apply AWp.condP; exact rfl) <;> intro h)
  | ((apply AWp.condN; exact rfl) <;> intro h)
  | (apply AWp.condT; exact rfl)
  | (apply AWp.condF; exact rfl)
  | ((apply AWp.condB; exact rfl) <;> intro h)
  | apply AWp.block
  | apply AWp.ret
  | apply AWp.exit
  | apply AWp.skip
  | (apply AWp.regionQ; kernel_rfl; kernel_rfl)
  | (apply if_pos'; exact rfl)
  | (apply if_neg'; decide)
  | (apply w_skip; exact rfl)
  | (apply w_pickT; exact rfl; exact rfl; exact rfl)
  | (apply w_pickF; exact rfl; exact rfl; exact rfl)
  | (apply w_len; exact rfl; exact rfl; first | exact .ints _ | exact .intss _ | exact .sli rfl | exact .sls rfl | exact .slr rfl | exact .orow rfl | exact .nil)
  | (apply w_call (l01In_c _ _ _); exact rfl; exact rfl; focus ((repeat (first | exact im_nil | refine im_cons rfl (.val _) ?_ | refine im_cons rfl (.ints _) ?_ | refine im_cons rfl (.intss _) ?_ | refine im_cons rfl (.sli rfl) ?_ | refine im_cons rfl (.sls rfl) ?_ | refine im_cons rfl (.orow rfl) ?_ | refine im_cons rfl (.osub rfl (by simp; omega)) ?_ | refine im_cons rfl (.nil) ?_ | refine im_cons rfl (.nils) ?_ | refine im_cons rfl (im_agg2 (.val _) (.ints _)) ?_ | refine im_cons rfl (im_agg2 (.val _) (.sli rfl)) ?_ | refine im_cons rfl (im_agg2 (.val _) (.nil)) ?_ | refine im_cons rfl (im_agg2 (.ints _) (.intss _)) ?_ | refine im_cons rfl (im_agg2 (.ints _) (.sls rfl)) ?_ | refine im_cons rfl (im_agg2 (.sli rfl) (.intss _)) ?_ | refine im_cons rfl (im_agg2 (.sli rfl) (.sls rfl)) ?_ | refine im_cons rfl (im_agg1 (.ints _)) ?_ | refine im_cons rfl (im_agg1 (.sli rfl)) ?_ | refine im_cons rfl (im_agg1 (.intss _)) ?_ | refine im_cons rfl (im_agg1 (.sls rfl)) ?_ | refine im_cons rfl (im_agg1 (.nil)) ?_ | refine im_cons rfl (im_agg1 (.nils)) ?_)); done))
  | omega
  | ((first | apply w_lss | apply w_leq | apply w_gtr | apply w_geq | apply w_eql | apply w_neq | apply w_add | apply w_sub | apply w_mul | apply w_idx | apply w_ld | apply w_fld | apply w_fa | apply w_extv | apply w_min | apply w_max | apply w_slhi | apply w_sllo | apply w_bs2); iterate 3 exact rfl)
  | ((first | apply w_eqlb | apply w_neqb | apply w_idxs | apply w_lds | apply w_ext); iterate 3 exact rfl)
  | (apply w_rem; exact rfl; exact rfl; exact rfl; (focus (omega; done)); (focus (omega; done)))
  | (apply w_quo; exact rfl; exact rfl; exact rfl; (focus (omega; done)); (focus (omega; done)))
  | (apply w_remT; exact rfl; exact rfl; exact rfl)
  | (apply w_quoT; exact rfl; exact rfl; exact rfl)
  | ((first | apply w_not | apply w_neg | apply w_conv | apply w_build0 | apply w_bs1 | apply w_boxa); iterate 2 exact rfl)
  | (apply w_idxo; exact rfl; exact rfl; (first | exact .sli rfl | exact .sls rfl | exact .slr rfl); exact rfl)
  | ((first | apply w_idxr | apply w_ldr); iterate 4 exact rfl)
  | (apply w_ldo; iterate 4 exact rfl)
  | (apply w_ldls; iterate 4 exact rfl)
  | (apply w_ldrp; iterate 4 exact rfl)
  | (apply w_ldb; iterate 5 exact rfl)
  | (apply w_ldst; iterate 5 exact rfl)
  | ((first | apply w_sllh | apply w_stbi); iterate 4 exact rfl)
  | ((first | apply w_oslo | apply w_oshi | apply w_stbii); iterate 4 exact rfl)
  | (apply w_build1; exact rfl; exact rfl; (first | exact one_val rfl rfl | exact one_ints | exact one_intss | exact one_own rfl True.intro))
  | (apply w_build2; exact rfl; exact rfl; exact rfl; (first | exact one_val rfl rfl | exact one_ints | exact one_intss | exact one_own rfl True.intro); (first | exact one_val rfl rfl | exact one_ints | exact one_intss | exact one_own rfl True.intro))
  | (apply w_bs0; iterate 1 exact rfl)
  | (apply w_appn; exact rfl; exact rfl; (first | exact .ints _ | exact .sli rfl | exact .orow rfl | exact .nil | exact .osub rfl (by simp; omega)); exact rfl)
  | (apply w_app; exact rfl; exact rfl; exact rfl; exact rfl; (first | exact .ints _ | exact .sli rfl | exact .orow rfl | exact .nil | exact .osub rfl (by simp; omega)); rotate_left 1; simp only [Env.mp, List.map_cons, List.map_nil, List.set_cons_zero, List.set_cons_succ, AV.kill, AV.kill1, AO.kill, AV.noRow, AV.noRow1, AO.via, reduceIte, Nat.reduceEqDiff, Nat.reduceLT, Env.up, Nat.zero_ne_one, Nat.one_ne_zero, Nat.reduceAdd, List.cons_append, List.nil_append]; rotate_left 1)
  | (apply w_alst; iterate 2 exact rfl)
  | (apply w_alone; iterate 3 exact rfl)
  | (apply w_mki; exact rfl; exact rfl; rotate_left 3; exact rfl; rotate_left 1)
  | (apply w_sti; exact rfl; exact rfl; rotate_left 1; exact rfl; rotate_left 2)
  | (apply w_stst; iterate 5 exact rfl)
  | (apply w_stbv; iterate 6 exact rfl)
  | (apply w_stbo; exact rfl; exact rfl; exact rfl; exact rfl; exact rfl; exact True.intro)
  | ((apply AOps.splitB; exact rfl; exact rfl) <;> intro h)
  | apply AllOf.nil
  | (apply AllOf.cons; exact rfl)
  | (apply AAny.take; exact rfl; exact rfl; kernel_rfl; kernel_rfl)
  | (apply AAny.all; exact rfl)
  | (apply AAny.done; exact rfl)
  | (apply inI_of <;> omega)
  | omega
  | (simp <;> omega))
        all_goals exact .bool Try.results35 rfl (isBr_bad2 (i := i) (by omega) hi fun hz => hr ⟨hz.1, hz.2.1⟩)
    · repeat' (first
  | (apply AOps.nil; try simp only [List.nil_append, List.cons_append, List.set_cons_zero, List.set_cons_succ, List.length_cons, List.length_nil, Nat.reduceAdd, AV.sh, AV.sh1, AV.sh0, AO.sh, List.map_cons, List.map_nil, Nat.zero_add, Nat.add_zero, setAll])
  | ((apply AOps.splitP; exact rfl; exact rfl) <;> intro h)
  | ((apply AOps.splitN; exact rfl; exact rfl) <;> intro h)
  | (apply w_move; exact rfl; exact rfl)
  | (apply w_assign; exact rfl; exact rfl)
  | apply AWp.seq
  | apply AWp.region
  | ((apply AWp.condP; exact rfl) <;> intro h)
  | ((apply AWp.condN; exact rfl) <;> intro h)
  | (apply AWp.condT; exact rfl)
  | (apply AWp.condF; exact rfl)
  | ((apply AWp.condB; exact rfl) <;> intro h)
  | apply AWp.block
  | apply AWp.ret
  | apply AWp.exit
  | apply AWp.skip
  | (apply AWp.regionQ; kernel_rfl; kernel_rfl)
  | (apply if_pos'; exact rfl)
  | (apply if_neg'; decide)
  | (apply w_skip; exact rfl)
  | (apply w_pickT; exact rfl; exact rfl; exact rfl)
  | (apply w_pickF; exact rfl; exact rfl; exact rfl)
  | (apply w_len; exact rfl; exact rfl; first | exact .ints _ | exact .intss _ | exact .sli rfl | exact .sls rfl | exact .slr rfl | exact .orow rfl | exact .nil)
  | omega
  | ((first | apply w_lss | apply w_leq | apply w_gtr | apply w_geq | apply w_eql | apply w_neq | apply w_add | apply w_sub | apply w_mul | apply w_idx | apply w_ld | apply w_fld | apply w_fa | apply w_extv | apply w_min | apply w_max | apply w_slhi | apply w_sllo | apply w_bs2); iterate 3 exact rfl)
  | ((first | apply w_eqlb | apply w_neqb | apply w_idxs | apply w_lds | apply w_ext); iterate 3 exact rfl)
  | (apply w_rem; exact rfl; exact rfl; exact rfl; (focus (omega; done)); (focus (omega; done)))
  | (apply w_quo; exact rfl; exact rfl; exact rfl; (focus (omega; done)); (focus (omega; done)))
  | (apply w_remT; exact rfl; exact rfl; exact rfl)
  | (apply w_quoT; exact rfl; exact rfl; exact rfl)
  | ((first | apply w_not | apply w_neg | apply w_conv | apply w_build0 | apply w_bs1 | apply w_boxa); iterate 2 exact rfl)
  | (apply w_idxo; exact rfl; exact rfl; (first | exact .sli rfl | exact .sls rfl | exact .slr rfl); exact rfl)
  | ((first | apply w_idxr | apply w_ldr); iterate 4 exact rfl)
  | (apply w_ldo; iterate 4 exact rfl)
  | (apply w_ldls; iterate 4 exact rfl)
  | (apply w_ldrp; iterate 4 exact rfl)
  | (apply w_ldb; iterate 5 exact rfl)
  | (apply w_ldst; iterate 5 exact rfl)
  | ((first | apply w_sllh | apply w_stbi); iterate 4 exact rfl)
  | ((first | apply w_oslo | apply w_oshi | apply w_stbii); iterate 4 exact rfl)
  | (apply w_build1; exact rfl; exact rfl; (first | exact one_val rfl rfl | exact one_ints | exact one_intss | exact one_own rfl True.intro))
  | (apply w_build2; exact rfl; exact rfl; exact rfl; (first | exact one_val rfl rfl | exact one_ints | exact one_intss | exact one_own rfl True.intro); (first | exact one_val rfl rfl | exact one_ints | exact one_intss | exact one_own rfl True.intro))
  | (apply w_bs0; iterate 1 exact rfl)
  | (apply w_appn; exact rfl; exact rfl; (first | exact .ints _ | exact .sli rfl | exact .orow rfl | exact .nil | exact .osub rfl (by simp; omega)); exact rfl)
  | (apply w_app; exact rfl; exact rfl; exact rfl; exact rfl; (first | exact .ints _ | exact .sli rfl | exact .orow rfl | exact .nil | exact .osub rfl (by simp; omega)); rotate_left 1; simp only [Env.mp, List.map_cons, List.map_nil, List.set_cons_zero, List.set_cons_succ, AV.kill, AV.kill1, AO.kill, AV.noRow, AV.noRow1, AO.via, reduceIte, Nat.reduceEqDiff, Nat.reduceLT, Env.up, Nat.zero_ne_one, Nat.one_ne_zero, Nat.reduceAdd, List.cons_append, List.nil_append]; rotate_left 1)
  | (apply w_alst; iterate 2 exact rfl)
  | (apply w_alone; iterate 3 exact rfl)
  | (apply w_mki; exact rfl; exact rfl; rotate_left 3; exact rfl; rotate_left 1)
  | (apply w_sti; exact rfl; exact rfl; rotate_left 1; exact rfl; rotate_left 2)
  | (apply w_stst; iterate 5 exact rfl)
  | (apply w_stbv; iterate 6 exact rfl)
  | (apply w_stbo; exact rfl; exact rfl; exact rfl; exact rfl; exact rfl; exact True.intro)
  | ((apply AOps.splitB; exact rfl; exact rfl) <;> intro h)
  | apply AllOf.nil
  | (apply AllOf.cons; exact rfl)
  | (apply AAny.take; exact rfl; exact rfl; kernel_rfl; kernel_rfl)
  | (apply AAny.all; exact rfl)
  | (apply AAny.done; exact rfl)
  | (apply inI_of <;> omega)
  | omega
  | (simp <;> omega))
      have e : i = xs.length := by omega
      subst e
      exact .bool Try.results35 rfl (isBr_end g1 g2 h3 h2 fun j k1 k2 => (h4 j k1 k2).1)
  · repeat' (first
  | (apply AOps.nil; try simp only [List.nil_append, List.cons_append, List.set_cons_zero, List.set_cons_succ, List.length_cons, List.length_nil, Nat.reduceAdd, AV.sh, AV.sh1, AV.sh0, AO.sh, List.map_cons, List.map_nil, Nat.zero_add, Nat.add_zero, setAll])
  | ((apply AOps.splitP; exact rfl; exact rfl) <;> intro h)
  | ((apply AOps.splitN; exact rfl; exact rfl) <;> intro h)
  | (apply w_move; exact rfl; exact rfl)
  | (apply w_assign; exact rfl; exact rfl)
  | apply AWp.seq
  | apply AWp.region
  | ((apply AWp.condP; exact rfl) <;> intro h)
  | ((apply AWp.condN; exact rfl) <;> intro h)
  | (apply AWp.condT; exact rfl)
  | (apply AWp.condF; exact rfl)
  | ((apply AWp.condB; exact rfl) <;> intro h)
  | apply AWp.block
  | apply AWp.ret
  | apply AWp.exit
  | apply AWp.skip
  | (apply AWp.regionQ; kernel_rfl; kernel_rfl)
  | (apply if_pos'; exact rfl)
  | (apply if_neg'; decide)
  | (apply w_skip; exact rfl)
  | (apply w_pickT; exact rfl; exact rfl; exact rfl)
  | (apply w_pickF; exact rfl; exact rfl; exact rfl)
  | (apply w_len; exact rfl; exact rfl; first | exact .ints _ | exact .intss _ | exact .sli rfl | exact .sls rfl | exact .slr rfl | exact .orow rfl | exact .nil)
  | (apply w_call (l01In_c _ _ _); exact rfl; exact rfl; focus ((repeat (first | exact im_nil | refine im_cons rfl (.val _) ?_ | refine im_cons rfl (.ints _) ?_ | refine im_cons rfl (.intss _) ?_ | refine im_cons rfl (.sli rfl) ?_ | refine im_cons rfl (.sls rfl) ?_ | refine im_cons rfl (.orow rfl) ?_ | refine im_cons rfl (.osub rfl (by simp; omega)) ?_ | refine im_cons rfl (.nil) ?_ | refine im_cons rfl (.nils) ?_ | refine im_cons rfl (im_agg2 (.val _) (.ints _)) ?_ | refine im_cons rfl (im_agg2 (.val _) (.sli rfl)) ?_ | refine im_cons rfl (im_agg2 (.val _) (.nil)) ?_ | refine im_cons rfl (im_agg2 (.ints _) (.intss _)) ?_ | refine im_cons rfl (im_agg2 (.ints _) (.sls rfl)) ?_ | refine im_cons rfl (im_agg2 (.sli rfl) (.intss _)) ?_ | refine im_cons rfl (im_agg2 (.sli rfl) (.sls rfl)) ?_ | refine im_cons rfl (im_agg1 (.ints _)) ?_ | refine im_cons rfl (im_agg1 (.sli rfl)) ?_ | refine im_cons rfl (im_agg1 (.intss _)) ?_ | refine im_cons rfl (im_agg1 (.sls rfl)) ?_ | refine im_cons rfl (im_agg1 (.nil)) ?_ | refine im_cons rfl (im_agg1 (.nils)) ?_)); done))
  | omega
  | ((first | apply w_lss | apply w_leq | apply w_gtr | apply w_geq | apply w_eql | apply w_neq | apply w_add | apply w_sub | apply w_mul | apply w_idx | apply w_ld | apply w_fld | apply w_fa | apply w_extv | apply w_min | apply w_max | apply w_slhi | apply w_sllo | apply w_bs2); iterate 3 exact rfl)
  | ((first | apply w_eqlb | apply w_neqb | apply w_idxs | apply w_lds | apply w_ext); iterate 3 exact rfl)
  | (apply w_rem; exact rfl; exact rfl; exact rfl; (focus (omega; done)); (focus (omega; done)))
  | (apply w_quo; exact rfl; exact rfl; exact rfl; (focus (omega; done)); (focus (omega; done)))
  | (apply w_remT; exact rfl; exact rfl; exact rfl)
  | (apply w_quoT; exact rfl; exact rfl; exact rfl)
  | ((first | apply w_not | apply w_neg | apply w_conv | apply w_build0 | apply w_bs1 | apply w_boxa); iterate 2 exact rfl)
  | (apply w_idxo; exact rfl; exact rfl; (first | exact .sli rfl | exact .sls rfl | exact .slr rfl); exact rfl)
  | ((first | apply w_idxr | apply w_ldr); iterate 4 exact rfl)
  | (apply w_ldo; iterate 4 exact rfl)
  | (apply w_ldls; iterate 4 exact rfl)
  | (apply w_ldrp; iterate 4 exact rfl)
  | (apply w_ldb; iterate 5 exact rfl)
  | (apply w_ldst; iterate 5 exact rfl)
  | ((first | apply w_sllh | apply w_stbi); iterate 4 exact rfl)
  | ((first | apply w_oslo | apply w_oshi | apply w_stbii); iterate 4 exact rfl)
  | (apply w_build1; exact rfl; exact rfl; (first | exact one_val rfl rfl | exact one_ints | exact one_intss | exact one_own rfl True.intro))
  | (apply w_build2; exact rfl; exact rfl; exact rfl; (first | exact one_val rfl rfl | exact one_ints | exact one_intss | exact one_own rfl True.intro); (first | exact one_val rfl rfl | exact one_ints | exact one_intss | exact one_own rfl True.intro))
  | (apply w_bs0; iterate 1 exact rfl)
  | (apply w_appn; exact rfl; exact rfl; (first | exact .ints _ | exact .sli rfl | exact .orow rfl | exact .nil | exact .osub rfl (by simp; omega)); exact rfl)
  | (apply w_app; exact rfl; exact rfl; exact rfl; exact rfl; (first | exact .ints _ | exact .sli rfl | exact .orow rfl | exact .nil | exact .osub rfl (by simp; omega)); rotate_left 1; simp only [Env.mp, List.map_cons, List.map_nil, List.set_cons_zero, List.set_cons_succ, AV.kill, AV.kill1, AO.kill, AV.noRow, AV.noRow1, AO.via, reduceIte, Nat.reduceEqDiff, Nat.reduceLT, Env.up, Nat.zero_ne_one, Nat.one_ne_zero, Nat.reduceAdd, List.cons_append, List.nil_append]; rotate_left 1)
  | (apply w_alst; iterate 2 exact rfl)
  | (apply w_alone; iterate 3 exact rfl)
  | (apply w_mki; exact rfl; exact rfl; rotate_left 3; exact rfl; rotate_left 1)
  | (apply w_sti; exact rfl; exact rfl; rotate_left 1; exact rfl; rotate_left 2)
  | (apply w_stst; iterate 5 exact rfl)
  | (apply w_stbv; iterate 6 exact rfl)
  | (apply w_stbo; exact rfl; exact rfl; exact rfl; exact rfl; exact rfl; exact True.intro)
  | ((apply AOps.splitB; exact rfl; exact rfl) <;> intro h)
  | apply AllOf.nil
  | (apply AllOf.cons; exact rfl)
  | (apply AAny.take; exact rfl; exact rfl; kernel_rfl; kernel_rfl)
  | (apply AAny.all; exact rfl)
  | (apply AAny.done; exact rfl)
  | (apply inI_of <;> omega)
  | omega
  | (simp <;> omega))
    all_goals exact .bool Try.results35 rfl (isBr_bad hg)

/-! ### The parametrisation -/
end Go.Proofs.Ytpllbdjobmgikaa
/-
  Contracts of the laws' own helpers over lists of lists. No condition but a bound on the sizes.
-/
namespace Go.Proofs.Ytpllbdjobmgikaa
open Go Go.RowKit
attribute [local irreducible] AWp AOps ResIs Ret1 QOp LOp COp AFnV AFn Imms LeE LeO
set_option maxHeartbeats 1000000
set_option linter.unusedSimpArgs false
set_option linter.unusedVariables false

/-- The new slice of rows that a function hands back alone. -/
def IsIntss (e e2 : TypeId) (xss : List (List Int)) (r : AV) (os : List AO) : Prop := r = .own 0 ∧ os = [.sls e e2 xss]

theorem eqInt64SS_c (xss yss : List (List Int)) : AFnV Try.prog 10 [.intss xss, .intss yss] (.bool (decide (xss = yss))) := by
  (refine AFnV.start Try.func10 Try.ntmps10 rfl (by kernel_rfl) fun hk0 => ?_; simp only [Env.start, enumF, List.length_cons, List.length_nil, Nat.reduceAdd, Nat.reduceSub, List.cons_append, List.nil_append])
  obtain ⟨hk, hl⟩ : ArgOk (.intss xss) := hk0 _ (by simp)
  repeat' (first
  | (apply AOps.nil; try simp only [List.nil_append, List.cons_append, List.set_cons_zero, List.set_cons_succ, List.length_cons, List.length_nil, Nat.reduceAdd, AV.sh, AV.sh1, AV.sh0, AO.sh, List.map_cons, List.map_nil, Nat.zero_add, Nat.add_zero, setAll])
  | ((apply AOps.splitP; exact rfl; exact rfl) <;> intro h)
  | ((apply AOps.splitN; exact rfl; exact rfl) <;> intro h)
  | (apply w_move; exact rfl; exact rfl)
  | (apply w_assign; exact rfl; exact rfl)
  | apply AWp.seq
  | apply AWp.region
  | ((apply AWp.condP; exact rfl) <;> intro h)
  | ((apply AWp.condN; exact rfl) <;> intro h)
  | (apply AWp.condT; exact rfl)
  | (apply AWp.condF; exact rfl)
  | ((apply AWp.condB; exact rfl) <;> intro h)
  | apply AWp.block
  | apply AWp.ret
  | apply AWp.exit
  | apply AWp.skip
  | (apply AWp.regionQ; kernel_rfl; kernel_rfl)
  | (apply if_pos'; exact rfl)
  | (apply if_neg'; decide)
  | (apply w_skip; exact rfl)
  | (apply w_pickT; exact rfl; exact rfl; exact rfl)
  | (apply w_pickF; exact rfl; exact rfl; exact rfl)
  | (apply w_len; exact rfl; exact rfl; first | exact .ints _ | exact .intss _ | exact .sli rfl | exact .sls rfl | exact .slr rfl | exact .orow rfl | exact .nil)
  | ((first | apply w_lss | apply w_leq | apply w_gtr | apply w_geq | apply w_eql | apply w_neq | apply w_add | apply w_sub | apply w_mul | apply w_idx | apply w_ld | apply w_fld | apply w_fa | apply w_extv | apply w_min | apply w_max | apply w_slhi | apply w_sllo | apply w_bs2); iterate 3 exact rfl)
  | ((first | apply w_eqlb | apply w_neqb | apply w_idxs | apply w_lds | apply w_ext); iterate 3 exact rfl)
  | (apply w_rem; exact rfl; exact rfl; exact rfl; (focus (omega; done)); (focus (omega; done)))
  | (apply w_quo; exact rfl; exact rfl; exact rfl; (focus (omega; done)); (focus (omega; done)))
  | (apply w_remT; exact rfl; exact rfl; exact rfl)
  | (apply w_quoT; exact rfl; exact rfl; exact rfl)
  | ((first | apply w_not | apply w_neg | apply w_conv | apply w_build0 | apply w_bs1 | apply w_boxa); iterate 2 exact rfl)
  | (apply w_idxo; exact rfl; exact rfl; (first | exact .sli rfl | exact .sls rfl | exact .slr rfl); exact rfl)
  | ((first | apply w_idxr | apply w_ldr); iterate 4 exact rfl)
  | (apply w_ldo; iterate 4 exact rfl)
  | (apply w_ldls; iterate 4 exact rfl)
  | (apply w_ldrp; iterate 4 exact rfl)
  | (apply w_ldb; iterate 5 exact rfl)
  | (apply w_ldst; iterate 5 exact rfl)
  | ((first | apply w_sllh | apply w_stbi); iterate 4 exact rfl)
  | ((first | apply w_oslo | apply w_oshi | apply w_stbii); iterate 4 exact rfl)
  | (apply w_copy; exact rfl; (first | exact .own rfl rfl rfl | exact .osub); exact rfl; rotate_left 1; exact rfl; (first | exact .ints _ | exact .sli rfl | exact .orow rfl | exact .nil | exact .osub rfl (by simp; omega)))
  | (apply w_build1; exact rfl; exact rfl; (first | exact one_val rfl rfl | exact one_ints | exact one_intss | exact one_own rfl True.intro))
  | (apply w_build2; exact rfl; exact rfl; exact rfl; (first | exact one_val rfl rfl | exact one_ints | exact one_intss | exact one_own rfl True.intro); (first | exact one_val rfl rfl | exact one_ints | exact one_intss | exact one_own rfl True.intro))
  | (apply w_bs0; iterate 1 exact rfl)
  | (apply w_appn; exact rfl; exact rfl; (first | exact .ints _ | exact .sli rfl | exact .orow rfl | exact .nil | exact .osub rfl (by simp; omega)); exact rfl)
  | (apply w_app; exact rfl; exact rfl; exact rfl; exact rfl; (first | exact .ints _ | exact .sli rfl | exact .orow rfl | exact .nil | exact .osub rfl (by simp; omega)); rotate_left 1; simp only [Env.mp, List.map_cons, List.map_nil, List.set_cons_zero, List.set_cons_succ, AV.kill, AV.kill1, AO.kill, AV.noRow, AV.noRow1, AO.via, reduceIte, Nat.reduceEqDiff, Nat.reduceLT, Env.up, Nat.zero_ne_one, Nat.one_ne_zero, Nat.reduceAdd, List.cons_append, List.nil_append]; rotate_left 1)
  | (apply w_alst; iterate 2 exact rfl)
  | (apply w_alone; iterate 3 exact rfl)
  | (apply w_mki; exact rfl; exact rfl; rotate_left 3; exact rfl; rotate_left 1)
  | (apply w_mkr; exact rfl; exact rfl; rotate_left 3; exact rfl; rotate_left 1)
  | (apply w_strow; exact rfl; exact rfl; rotate_left 1; exact rfl; exact rfl; exact rfl; exact rfl; simp only [Env.mp, List.map_cons, List.map_nil, List.set_cons_zero, List.set_cons_succ, AV.kill, AV.kill1, AO.kill, AV.noRow, AV.noRow1, AO.via, reduceIte, Nat.reduceEqDiff, Nat.reduceLT, Env.up, Nat.zero_ne_one, Nat.one_ne_zero, Nat.reduceAdd, List.cons_append, List.nil_append]; rotate_left 1)
  | (apply w_sti; exact rfl; exact rfl; rotate_left 1; exact rfl; rotate_left 2)
  | (apply w_stst; iterate 5 exact rfl)
  | (apply w_stbv; iterate 6 exact rfl)
  | (apply w_stbo; exact rfl; exact rfl; exact rfl; exact rfl; exact rfl; exact True.intro)
  | ((apply AOps.splitB; exact rfl; exact rfl) <;> intro h)
  | apply AllOf.nil
  | (apply AllOf.cons; exact rfl)
  | (apply AAny.take; exact rfl; exact rfl; kernel_rfl; kernel_rfl)
  | (apply AAny.all; exact rfl)
  | (apply AAny.done; exact rfl)
  | (apply inI_of <;> omega)
  | omega
  | (simp <;> omega))
  · exact .bool Try.results10 rfl (by simp; intro e; subst e; simp at h)
  refine AWp.loop (ι := Nat) (fun i => ⟨27, [(0, .intss xss), (1, .intss yss), (5, .i i)]⟩) (fun _ => []) (fun i => i ≤ xss.length ∧ xss.take i = yss.take i) (fun i => xss.length - i) 0 ⟨by omega, by simp⟩ ⟨lee rfl (by (repeat (first | exact le_nil | refine le_eq rfl rfl ?_ | refine le_eq rfl (congrArg AV.i (by omega)) ?_))), by (repeat (first | exact lo_nil | refine lo_dead ?_ | refine lo_eq rfl ?_)), rfl, rfl⟩ ?_
  rintro i ⟨h0, h1⟩
  have hlen : xss.length = yss.length := by omega
  repeat' (first
  | (apply AOps.nil; try simp only [List.nil_append, List.cons_append, List.set_cons_zero, List.set_cons_succ, List.length_cons, List.length_nil, Nat.reduceAdd, AV.sh, AV.sh1, AV.sh0, AO.sh, List.map_cons, List.map_nil, Nat.zero_add, Nat.add_zero, setAll])
  | ((apply AOps.splitP; exact rfl; exact rfl) <;> intro h)
  | ((apply AOps.splitN; exact rfl; exact rfl) <;> intro h)
  | (apply w_move; exact rfl; exact rfl)
  | (apply w_assign; exact rfl; exact rfl)
  | apply AWp.seq
  | apply AWp.region
  | ((apply AWp.condP; exact rfl) <;> intro h)
  | ((apply AWp.condN; exact rfl) <;> intro h)
  | (apply AWp.condT; exact rfl)
  | (apply AWp.condF; exact rfl)
  | ((apply AWp.condB; exact rfl) <;> intro h)
  | apply AWp.block
  | apply AWp.ret
  | apply AWp.exit
  | apply AWp.skip
  | (apply AWp.regionQ; kernel_rfl; kernel_rfl)
  | (apply if_pos'; exact rfl)
  | (apply if_neg'; decide)
  | (apply w_skip; exact rfl)
  | (apply w_pickT; exact rfl; exact rfl; exact rfl)
  | (apply w_pickF; exact rfl; exact rfl; exact rfl)
  | (apply w_len; exact rfl; exact rfl; first | exact .ints _ | exact .intss _ | exact .sli rfl | exact .sls rfl | exact .slr rfl | exact .orow rfl | exact .nil)
  | (apply w_call (eqInt64S_c _ _); exact rfl; exact rfl; focus ((repeat (first | exact im_nil | refine im_cons rfl (.val _) ?_ | refine im_cons rfl (.ints _) ?_ | refine im_cons rfl (.intss _) ?_ | refine im_cons rfl (.sli rfl) ?_ | refine im_cons rfl (.sls rfl) ?_ | refine im_cons rfl (.orow rfl) ?_ | refine im_cons rfl (.osub rfl (by simp; omega)) ?_ | refine im_cons rfl (.nil) ?_ | refine im_cons rfl (.nils) ?_ | refine im_cons rfl (im_agg2 (.val _) (.ints _)) ?_ | refine im_cons rfl (im_agg2 (.val _) (.sli rfl)) ?_ | refine im_cons rfl (im_agg2 (.val _) (.nil)) ?_ | refine im_cons rfl (im_agg2 (.ints _) (.intss _)) ?_ | refine im_cons rfl (im_agg2 (.ints _) (.sls rfl)) ?_ | refine im_cons rfl (im_agg2 (.sli rfl) (.intss _)) ?_ | refine im_cons rfl (im_agg2 (.sli rfl) (.sls rfl)) ?_ | refine im_cons rfl (im_agg1 (.ints _)) ?_ | refine im_cons rfl (im_agg1 (.sli rfl)) ?_ | refine im_cons rfl (im_agg1 (.intss _)) ?_ | refine im_cons rfl (im_agg1 (.sls rfl)) ?_ | refine im_cons rfl (im_agg1 (.nil)) ?_ | refine im_cons rfl (im_agg1 (.nils)) ?_)); done))
  | ((first | apply w_lss | apply w_leq | apply w_gtr | apply w_geq | apply w_eql | apply w_neq | apply w_add | apply w_sub | apply w_mul | apply w_idx | apply w_ld | apply w_fld | apply w_fa | apply w_extv | apply w_min | apply w_max | apply w_slhi | apply w_sllo | apply w_bs2); iterate 3 exact rfl)
  | ((first | apply w_eqlb | apply w_neqb | apply w_idxs | apply w_lds | apply w_ext); iterate 3 exact rfl)
  | (apply w_rem; exact rfl; exact rfl; exact rfl; (focus (omega; done)); (focus (omega; done)))
  | (apply w_quo; exact rfl; exact rfl; exact rfl; (focus (omega; done)); (focus (omega; done)))
  | (apply w_remT; exact rfl; exact rfl; exact rfl)
  | (apply w_quoT; exact rfl; exact rfl; exact rfl)
  | ((first | apply w_not | apply w_neg | apply w_conv | apply w_build0 | apply w_bs1 | apply w_boxa); iterate 2 exact rfl)
  | (apply w_idxo; exact rfl; exact rfl; (first | exact .sli rfl | exact .sls rfl | exact .slr rfl); exact rfl)
  | ((first | apply w_idxr | apply w_ldr); iterate 4 exact rfl)
  | (apply w_ldo; iterate 4 exact rfl)
  | (apply w_ldls; iterate 4 exact rfl)
  | (apply w_ldrp; iterate 4 exact rfl)
  | (apply w_ldb; iterate 5 exact rfl)
  | (apply w_ldst; iterate 5 exact rfl)
  | ((first | apply w_sllh | apply w_stbi); iterate 4 exact rfl)
  | ((first | apply w_oslo | apply w_oshi | apply w_stbii); iterate 4 exact rfl)
  | (apply w_copy; exact rfl; (first | exact .own rfl rfl rfl | exact .osub); exact rfl; rotate_left 1; exact rfl; (first | exact .ints _ | exact .sli rfl | exact .orow rfl | exact .nil | exact .osub rfl (by simp; omega)))
  | (apply w_build1; exact rfl; exact rfl; (first | exact one_val rfl rfl | exact one_ints | exact one_intss | exact one_own rfl True.intro))
  | (apply w_build2; exact rfl; exact rfl; exact rfl; (first | exact one_val rfl rfl | exact one_ints | exact one_intss | exact one_own rfl True.intro); (first | exact one_val rfl rfl | exact one_ints | exact one_intss | exact one_own rfl True.intro))
  | (apply w_bs0; iterate 1 exact rfl)
  | (apply w_appn; exact rfl; exact rfl; (first | exact .ints _ | exact .sli rfl | exact .orow rfl | exact .nil | exact .osub rfl (by simp; omega)); exact rfl)
  | (apply w_app; exact rfl; exact rfl; exact rfl; exact rfl; (first | exact .ints _ | exact .sli rfl | exact .orow rfl | exact .nil | exact .osub rfl (by simp; omega)); rotate_left 1; simp only [Env.mp, List.map_cons, List.map_nil, List.set_cons_zero, List.set_cons_succ, AV.kill, AV.kill1, AO.kill, AV.noRow, AV.noRow1, AO.via, reduceIte, Nat.reduceEqDiff, Nat.reduceLT, Env.up, Nat.zero_ne_one, Nat.one_ne_zero, Nat.reduceAdd, List.cons_append, List.nil_append]; rotate_left 1)
  | (apply w_alst; iterate 2 exact rfl)
  | (apply w_alone; iterate 3 exact rfl)
  | (apply w_mki; exact rfl; exact rfl; rotate_left 3; exact rfl; rotate_left 1)
  | (apply w_mkr; exact rfl; exact rfl; rotate_left 3; exact rfl; rotate_left 1)
  | (apply w_strow; exact rfl; exact rfl; rotate_left 1; exact rfl; exact rfl; exact rfl; exact rfl; simp only [Env.mp, List.map_cons, List.map_nil, List.set_cons_zero, List.set_cons_succ, AV.kill, AV.kill1, AO.kill, AV.noRow, AV.noRow1, AO.via, reduceIte, Nat.reduceEqDiff, Nat.reduceLT, Env.up, Nat.zero_ne_one, Nat.one_ne_zero, Nat.reduceAdd, List.cons_append, List.nil_append]; rotate_left 1)
  | (apply w_sti; exact rfl; exact rfl; rotate_left 1; exact rfl; rotate_left 2)
  | (apply w_stst; iterate 5 exact rfl)
  | (apply w_stbv; iterate 6 exact rfl)
  | (apply w_stbo; exact rfl; exact rfl; exact rfl; exact rfl; exact rfl; exact True.intro)
  | ((apply AOps.splitB; exact rfl; exact rfl) <;> intro h)
  | apply AllOf.nil
  | (apply AllOf.cons; exact rfl)
  | (apply AAny.take; exact rfl; exact rfl; kernel_rfl; kernel_rfl)
  | (apply AAny.all; exact rfl)
  | (apply AAny.done; exact rfl)
  | (apply inI_of <;> omega)
  | omega
  | (simp <;> omega))
  · refine .bool Try.results10 rfl ?_
    have : ¬ xss = yss := fun e => h (by rw [e])
    simp [this]
  · refine ⟨i + 1, ⟨by omega, ?_⟩, by omega, ⟨lee rfl (by (repeat (first | exact le_nil | refine le_eq rfl rfl ?_ | refine le_eq rfl (congrArg AV.i (by omega)) ?_))), by (repeat (first | exact lo_nil | refine lo_dead ?_ | refine lo_eq rfl ?_)), rfl, rfl⟩⟩
    have a1 : i < xss.length := by omega
    have a2 : i < yss.length := by omega
    have a3 : xss[i] = yss[i] := by simpa [gets, a1, a2] using h
    rw [List.take_succ_eq_append_getElem a1, List.take_succ_eq_append_getElem a2, h1, a3]
  · have e : i = xss.length := by omega
    subst e
    rw [List.take_length, hlen, List.take_length] at h1
    exact .bool Try.results10 rfl (by simp [h1])

theorem eqInt64SS_t (xss : List (List Int)) : AFnV Try.prog 10 [.intss xss, .intss xss] (.bool true) := by
  have := eqInt64SS_c xss xss
  simpa using this
end Go.Proofs.Ytpllbdjobmgikaa
/-
  More rules: parts of own slices as sources, a slice compared with nil, functions that hand back a part of what they are handed. No condition.
-/
namespace Go.Proofs.Ytpllbdjobmgikaa
open Go Go.RowKit
section
variable {P : Program} {env : Env} {os : List AO} {d : Option Tmp} {ty : TypeId} {pos : String} {af : Array Edge} {g : Option (Nat × Bool)} {wl : Bool}

end

section
variable {P : Program} {env : Env} {os : List AO} {d : Tmp} {ty : TypeId} {pos : String} {af : Array Edge} {g : Option (Nat × Bool)} {l rest : List Oper} {K : APost} {q : Md}
end

/-! ### Functions that hand back a part of what they are handed -/
/-- The function leaves the object 'os' behind the handle 0 as it is, and hands back a part of it: what lies off on, len long. -/
def AFnR (P : Program) (f : FuncId) (args : List AV) (T : TypeId) (xs : List Int) (off len : Nat) : Prop :=
  HasBody P f ∧ ∀ base w gs vs, base ≤ w.heap.size → Objs base w gs [.sli T xs] → vs.size = args.length → (∀ i : Nat, RV w (okOf gs [.sli T xs]) gs (vs.getD i undef) (args.getD i .any)) →
    Calls P f vs w fun e w' => ∃ v, e = .returned v ∧ RV w' (fun _ => True) gs v (.osub 0 off len) ∧ Objs base w' gs [.sli T xs] ∧ Below base w w' ∧ ∀ b, b < w.heap.size → (∀ (h : Nat) g, gs[h]? = some g → b ∉ g.bl) → w'.heap[b]? = w.heap[b]?
theorem AFnR.of {P : Program} {f : FuncId} {fn : Func} {c : Code} {args : List AV} {T : TypeId} {xs : List Int} {off len : Nat} {n : Nat} (hf : P.funcs[f]? = some fn) (hb : fn.body = some c) (hnm : (fn.name == "runtime.NumGoroutine") = false) (hn : fn.ntmps - args.length = n)
    (h : ∀ K, AWp P c (fun _ _ => False) (fun _ _ _ => False) (fun env os1 => ResIs P fn env os1 (.osub 0 off len) ∧ os1.take 1 = [.sli T xs] ∧ os1[1]? = some (.keep 2 K)) (Env.start args n) [.sli T xs, .keep 2 K]) :
    AFnR P f args T xs off len := by
  obtain ⟨os, hos⟩ : ∃ os : List AO, os = [.sli T xs] := ⟨_, rfl⟩
  have h' : ∀ K, AWp P c (fun _ _ => False) (fun _ _ _ => False) (fun env os1 => ResIs P fn env os1 (.osub 0 off len) ∧ os1.take os.length = os ∧ os1[os.length]? = some (.keep (os.length + 1) K) ∧ ∀ o ∈ os, o.plain) (Env.start args n) (os ++ [.keep (os.length + 1) K]) := by
    subst hos
    exact fun K => (h K).mono (fun _ _ e => e) (fun _ _ _ e => e) fun _ _ ⟨e1, e2, e3⟩ => ⟨e1, e2, e3, by intro o ho; simp at ho; subst ho; trivial⟩
  unfold AFnR
  rw [← hos]
  refine ⟨⟨fn, c, hf, hnm, hb⟩, fun base w gs vs hbase hO hsz hvs => calls_of_wp hf hb ?_⟩
  rw [show fn.ntmps - vs.size = n by rw [hsz]; exact hn]
  let bl : List Nat := (List.range w.heap.size).filter fun b => decide (base ≤ b) && gs.all fun g => !g.bl.contains b
  let gk : Gh := ⟨undef, 0, bl, []⟩
  let K : Kp := ⟨fun b => w.heap[b]?, gs ++ [gk]⟩
  have hbl : ∀ b, b ∈ bl ↔ b < w.heap.size ∧ base ≤ b ∧ ∀ (h : Nat) g, gs[h]? = some g → b ∉ g.bl := by
    intro b
    simp only [bl, List.mem_filter, List.mem_range, Bool.and_eq_true, decide_eq_true_eq, List.all_eq_true, Bool.not_eq_true', List.contains_eq_mem, decide_eq_false_iff_not]
    constructor
    · rintro ⟨h1, h2, h3⟩
      exact ⟨h1, h2, fun h g hg => h3 g (List.mem_of_getElem? hg)⟩
    · rintro ⟨h1, h2, h3⟩
      exact ⟨h1, h2, fun g hg => by obtain ⟨i, hi⟩ := List.getElem?_of_mem hg; exact h3 i g hi⟩
  have hl := hO.hl
  have part : ∀ {i : Nat} {x : Gh} {y : AO}, (gs ++ [gk])[i]? = some x → (os ++ [.keep (os.length + 1) K])[i]? = some y → (gs[i]? = some x ∧ os[i]? = some y) ∨ (i = os.length ∧ x = gk ∧ y = .keep (os.length + 1) K) := by
    intro i x y hx hy
    rcases append_one hx with ⟨h1, h2⟩ | ⟨h1, rfl⟩
    · rcases append_one hy with ⟨h3, h4⟩ | ⟨h3, rfl⟩
      · exact .inl ⟨h2, h4⟩
      · omega
    · rcases append_one hy with ⟨h3, h4⟩ | ⟨h3, rfl⟩
      · omega
      · exact .inr ⟨h3, rfl, rfl⟩
  have gl : ∀ (i : Nat) x, gs[i]? = some x → (gs ++ [gk])[i]? = some x := fun i x e => by
    rw [List.getElem?_append_left (List.getElem?_eq_some_iff.1 e).1]; exact e
  have kp : Keeps (okOf gs os) (okOf (gs ++ [gk]) (os ++ [.keep (os.length + 1) K])) w w := by
    intro b hbk _
    refine ⟨fun i x y hx hy hny hm => ?_, rfl⟩
    rcases part hx hy with ⟨h1, h2⟩ | ⟨_, _, rfl⟩
    · exact hbk i x y h1 h2 hny hm
    · exact hny.elim
  have hrel : Rel base w (gs ++ [gk]) (Env.start args n) (os ++ [.keep (os.length + 1) K]) (vs ++ Array.replicate n undef) := by
    refine ⟨hbase, by simp [hl], by simp [Env.start, hsz], fun i => ?_, ?_, ?_, ?_⟩
    · exact start_rv args n vs (fun i => (hvs i).mono kp gl) i
    · intro i x y hx hy
      rcases part hx hy with ⟨h1, h2⟩ | ⟨_, rfl, rfl⟩
      · exact (hO.hp y (List.mem_of_getElem? h2)).ro (hO.ho i x y h1 h2)
      · exact ⟨fun b _ => rfl, by simp [K, hl], fun i x h => h⟩
    · intro i j g1 g2 o1 o2 hij hg1 hg2 ho1 ho2 _ _ b hb1 hb2
      rcases part hg1 ho1 with ⟨a1, a2⟩ | ⟨a1, rfl, _⟩
      · rcases part hg2 ho2 with ⟨b1, b2⟩ | ⟨_, rfl, _⟩
        · exact hO.hd i j g1 g2 hij a1 b1 b hb1 hb2
        · exact ((hbl b).1 hb2).2.2 i g1 a1 hb1
      · rcases part hg2 ho2 with ⟨b1, b2⟩ | ⟨b1, _, _⟩
        · exact ((hbl b).1 hb1).2.2 j g2 b1 hb2
        · omega
    · intro i x y hx hy _ b hb
      rcases part hx hy with ⟨h1, h2⟩ | ⟨_, rfl, _⟩
      · exact hO.hn i x h1 b hb
      · exact ⟨((hbl b).1 hb).2.1, ((hbl b).1 hb).1⟩
  refine wp_mono (h' K base w w _ _ hrel (Below.refl _ _)) ?_
  intro e a w' hq
  cases e with
  | normal => obtain ⟨_, _, _, _, _, _, hx⟩ := hq; exact hx.elim
  | exit j => obtain ⟨_, _, _, _, _, _, hx⟩ := hq; exact hx.elim
  | ret =>
    obtain ⟨env, os1, gs1, hr, hd, hbel, h1, h3, h4, h5⟩ := hq
    obtain ⟨v, hu, hv⟩ := h1 _ _ _ _ hr
    have hlt : os.length < os1.length := (List.getElem?_eq_some_iff.1 h4).1
    have hltg : os.length < gs1.length := by have := hr.hl; omega
    obtain ⟨g1, hg1⟩ : ∃ g1, gs1[os.length]? = some g1 := ⟨_, List.getElem?_eq_getElem hltg⟩
    obtain ⟨r1, r2, r3⟩ := hr.ho _ _ _ hg1 h4
    have pin : ∀ (i : Nat) x, gs[i]? = some x → gs1[i]? = some x := fun i x e => r3 i x (gl i x e)
    have egk : g1 = gk := by
      have := r3 os.length gk (by show (gs ++ [gk])[os.length]? = some gk; rw [← hl]; simp)
      rw [hg1] at this
      exact Option.some.inj this
    rw [egk] at r1
    have get' : ∀ {i : Nat} {y : AO}, os[i]? = some y → os1[i]? = some y ∧ i < os.length := by
      intro i y hy
      rw [← h3, List.getElem?_take] at hy
      split at hy
      · exact ⟨hy, ‹_›⟩
      · cases hy
    refine ⟨hd, v, hu, v, rfl, ?_, ⟨hO.hl, h5, ?_, hO.hd, ?_⟩, hbel, ?_⟩
    · cases hv with
      | @osub _ _ _ cap p g0 hg hp hc hm =>
        have hlt0 : 0 < gs.length := by rw [hl, hos]; simp
        have e0 := pin 0 _ (List.getElem?_eq_getElem hlt0)
        rw [hg] at e0
        cases e0
        exact .osub (List.getElem?_eq_getElem hlt0) hp hc hm
    · intro i x y hx hy
      obtain ⟨h6, h7⟩ := get' hy
      exact (h5 y (List.mem_of_getElem? hy)).ro (hr.ho i x y (pin i x hx) h6)
    · intro i x hx b hb
      have := hO.hn i x hx b hb
      exact ⟨this.1, Nat.lt_of_lt_of_le this.2 hbel.size⟩
    · intro b hb hnot
      rcases Nat.lt_or_ge b base with h6 | h6
      · exact hbel.block b h6
      · exact r1 b ((hbl b).2 ⟨hb, h6, hnot⟩)
  | goto l => exact (hq : False).elim
  | panic ch => exact (hq : False).elim
  | outgrown => exact (hq : False).elim


theorem AFnR.start {P : Program} {f : FuncId} {fn : Func} {nt : Nat} {args : List AV} {T : TypeId} {xs : List Int} {off len : Nat} (hf : P.funcs[f]? = some fn) (hnt : fn.ntmps = nt) {c : Code} (hb : fn.body = some c) (hnm : (fn.name == "runtime.NumGoroutine") = false)
    (h : ∀ K, AWp P c (fun _ _ => False) (fun _ _ _ => False) (fun env os1 => ResIs P fn env os1 (.osub 0 off len) ∧ os1.take 1 = [.sli T xs] ∧ os1[1]? = some (.keep 2 K)) (Env.start args (nt - args.length)) [.sli T xs, .keep 2 K]) :
    AFnR P f args T xs off len := AFnR.of hf hb hnm (by rw [hnt]) h

section
variable {P : Program} {env : Env} {os : List AO} {d : Tmp} {ty : TypeId} {pos : String} {af : Array Edge} {l rest : List Oper} {K : APost}
end
end Go.Proofs.Ytpllbdjobmgikaa
/-
  Rows that go into own slices by append; literal slices of rows. No condition.
-/
namespace Go.Proofs.Ytpllbdjobmgikaa
open Go Go.RowKit

/-- The slice 'k' is now the row j of 'p'; what names p's own value or block is lost. -/
def AV.rin1 (k p j : Nat) : AV → AV
  | .own i => if i = k then .orow p j else if i = p then .any else .own i
  | .optr i n => if i = p then .any else .optr i n
  | .osub i a b => if i = p then .any else .osub i a b
  | .agg _ => .any
  | .tup _ => .any
  | a => a
def AV.rin (k p j : Nat) : AV → AV
  | .own i => if i = k then .orow p j else if i = p then .any else .own i
  | .optr i n => if i = p then .any else .optr i n
  | .osub i a b => if i = p then .any else .osub i a b
  | .agg l => .agg (l.map (AV.rin1 k p j))
  | .tup l => .tup (l.map (AV.rin1 k p j))
  | a => a

section
variable {w w' : World} {ok ok' : Nat → Prop} {gs gs' : List Gh} {p k j : Nat} {gk g' : Gh}

structure RowIn (p k j : Nat) (gs gs' : List Gh) : Prop where
  other : ∀ (i : Nat) g, i ≠ p → gs[i]? = some g → gs'[i]? = some g
  rows : ∀ g, gs[p]? = some g → ∃ g', gs'[p]? = some g' ∧ ∀ (i : Nat) v, g.rows[i]? = some v → g'.rows[i]? = some v
  row : ∀ gk, gs[k]? = some gk → ∃ g', gs'[p]? = some g' ∧ g'.rows[j]? = some gk.v

theorem RV.rin1 (kp : Keeps ok ok' w w') (s : RowIn p k j gs gs') {v : Value} {a : AV} (hv : RV w ok gs v a) : RV w' ok' gs' v (a.rin1 k p j) := by
  cases hv with
  | any v => exact .any v
  | val v => exact .val v
  | ints h => exact .ints (h.mono kp)
  | intss h => exact .intss (h.mono kp)
  | @ro v r h => exact .ro (r.up kp h)
  | iptr h h1 h2 => exact .iptr (h.mono kp) h1 h2
  | iiptr h h1 h2 => exact .iiptr (h.mono kp) h1 h2
  | @own i g h1 =>
    simp only [AV.rin1]; split
    · subst_vars
      obtain ⟨g', a1, a2⟩ := s.row _ h1
      exact .orow a1 a2
    · split
      · exact .any _
      · exact .own (s.other _ _ ‹_› h1)
  | optr h1 =>
    simp only [AV.rin1]; split
    · exact .any _
    · exact .optr (s.other _ _ ‹_› h1)
  | osub h1 h2 h3 h4 =>
    simp only [AV.rin1]; split
    · exact .any _
    · exact .osub (s.other _ _ ‹_› h1) h2 h3 h4
  | @orow h i g v h1 h2 =>
    by_cases e : h = p
    · subst e
      obtain ⟨g', a1, a2⟩ := s.rows _ h1
      exact .orow a1 (a2 _ _ h2)
    · exact .orow (s.other _ _ e h1) h2
  | @orptr h i n blk m c g h1 h2 =>
    by_cases e : h = p
    · subst e
      obtain ⟨g', a1, a2⟩ := s.rows _ h1
      exact .orptr a1 (a2 _ _ h2)
    · exact .orptr (s.other _ _ e h1) h2
  | agg _ _ _ => exact .any _
  | tup _ _ => exact .any _

theorem RV.rin (kp : Keeps ok ok' w w') (s : RowIn p k j gs gs') {v : Value} {a : AV} (hv : RV w ok gs v a) : RV w' ok' gs' v (a.rin k p j) := by
  cases hv with
  | any v => exact .any v
  | val v => exact .val v
  | ints h => exact .ints (h.mono kp)
  | intss h => exact .intss (h.mono kp)
  | @ro v r h => exact .ro (r.up kp h)
  | iptr h h1 h2 => exact .iptr (h.mono kp) h1 h2
  | iiptr h h1 h2 => exact .iiptr (h.mono kp) h1 h2
  | @own i g h1 => exact RV.rin1 kp s (.own h1)
  | optr h1 => exact RV.rin1 kp s (.optr h1)
  | osub h1 h2 h3 h4 => exact RV.rin1 kp s (.osub h1 h2 h3 h4)
  | orow h1 h2 => exact RV.rin1 kp s (.orow h1 h2)
  | orptr h1 h2 => exact RV.rin1 kp s (.orptr h1 h2)
  | agg h1 h3 h2 => exact .agg (by simpa using h1) h3 fun i => by rw [getD_map_f _ rfl]; exact (h2 i).rin1 kp s
  | tup h1 h2 => exact .tup (by simpa using h1) fun i => by rw [getD_map_f _ rfl]; exact (h2 i).rin1 kp s
end

section
variable {P : Program} {env : Env} {os : List AO} {d : Option Tmp} {ty : TypeId} {pos : String} {af : Array Edge} {g : Option (Nat × Bool)}

/-- An empty slice of rows. -/
theorem l_bsr0 {t e e2 : TypeId} {bytes : Nat} [ht : TSlice P t e] [he : TElem P e (.slice none 0 0) bytes] [TSlice P e e2] : LOp P ⟨d, .buildSlice t 0 #[], ty, pos, af, g⟩ env os (.own os.length) env (os ++ [.sls e e2 []]) := by
  refine l_new fun base w gs tm hr => ?_
  obtain ⟨ii, hi, hs, hz, hby⟩ := he.info
  refine ⟨w.alloc (.cells #[] e), ⟨.slice (some ⟨w.heap.size, 0, none⟩) 0 0, w.heap.size, [w.heap.size], []⟩, ?_, below_alloc w _, fun b hb => by simp at hb; simp [hb], fun ok gs' => ?_⟩
  · simp [execOp, Instr.buildSlice, run_underlying ht.und, sizeOf, typeInfo, hi, Instr.fill, newRow, ar0]
  · refine ⟨[], [], [w.heap.size], ⟨by simp, .inr ⟨w.heap.size, 0, _, rfl, hr.hb, heap_alloc_new w _, Nat.le_refl _, by simp [maxLen], by simp, by simp⟩⟩, rfl, rfl, rfl, fun i u hu => (by cases hu), .inr ⟨rfl, rfl⟩, by simp, by simp⟩

/-- A literal slice of one row: a block whose cell names the row. -/
theorem l_bsr1 {t e : TypeId} {bytes : Nat} [ht : TSlice P t e] [he : TElem P e (.slice none 0 0) bytes] {x : Operand} {k : Nat} {e3 : TypeId} {ys : List Int} (hx : AV.ev env x = .own k) (hk : os[k]? = some (.sli e3 ys)) :
    LOp P ⟨d, .buildSlice t 1 #[(0, x)], ty, pos, af, g⟩ env os (.osub os.length 0 1) env (os ++ [.bx e [.own k]]) := by
  intro base w gs tm hr
  have hxv := hr.ev x
  rw [hx] at hxv
  generalize hv : Act.eval ⟨tm, []⟩ x = v at hxv
  cases hxv with
  | @own _ gk hgk =>
    obtain ⟨b1, b2, b3⟩ := hr.ho _ _ _ hgk hk
    obtain ⟨ua, uc, eu⟩ := ownsRow_slice b1
    obtain ⟨ii, hi, hs, hz, hby⟩ := he.info
    have hbel := below_alloc w (.cells [gk.v].toArray e)
    have hlt : w.heap.size < (w.alloc (.cells [gk.v].toArray e)).heap.size := by simp
    have hno : AO.bx e [.own k] ≠ .dead → ∀ b, b ∈ [w.heap.size] → w.heap.size ≤ b ∧ b < (w.alloc (.cells [gk.v].toArray e)).heap.size := fun _ b hb => by simp at hb; omega
    let gn : Gh := ⟨.pointer (some ⟨w.heap.size, 0, none⟩), w.heap.size, [w.heap.size], []⟩
    have hgs : ∀ (i : Nat) g', gs[i]? = some g' → (gs ++ [gn])[i]? = some g' := fun i g' e => by
      rw [List.getElem?_append_left (List.getElem?_eq_some_iff.1 e).1]; exact e
    refine ⟨.slice (some ⟨w.heap.size, 0, none⟩) 1 1, _, gs ++ [gn], .inl ?_, hr.new hbel _ _ hno ?_, ?_, hbel.mono hr.hb⟩
    · simp [execOp, Instr.buildSlice, run_underlying ht.und, sizeOf, typeInfo, zeroValue, hi, hs, hz, Instr.fill, newRow, hv, eu, Value.cells, ar1]
    · refine ⟨[gk.v], heap_alloc_new w _, hr.hb, rfl, rfl, rfl, ?_, fun i => ?_⟩
      · intro c hc; simp at hc; subst hc; rw [eu]; rfl
      · match i with
        | 0 => exact .own (hgs _ _ hgk)
        | i + 1 => exact .any _
    · have := RV.osub (w := w.alloc (.cells [gk.v].toArray e)) (ok := okOf (gs ++ [gn]) (os ++ [.bx e [.own k]])) (off := 0) (len := 1) (cap := 1) (p := some ⟨w.heap.size, 0, none⟩) (len_new (gs := gs) (g := gn)) (fun _ => rfl) (Nat.le_refl _) (by simp [maxLen])
      rw [hr.hl] at this
      exact this

theorem nodup_rows {m m' fl c : List Nat} (h : (m ++ fl).Nodup) (hm : m'.Nodup) (hmm : ∀ b, b ∈ m' → b ∉ fl ∧ b ∉ c) (hc : c.Nodup) (hd : ∀ b, b ∈ c → b ∉ m ++ fl) : (m' ++ (fl ++ c)).Nodup := by
  simp only [List.nodup_append, List.mem_append] at *
  obtain ⟨h1, h2, h3⟩ := h
  refine ⟨hm, ⟨h2, hc, ?_⟩, ?_⟩
  · intro a ha b hb e
    subst e
    exact hd a hb (.inr ha)
  · intro a ha b hb e
    subst e
    rcases hb with hb | hb
    · exact (hmm a ha).1 hb
    · exact (hmm a ha).2 hb

set_option maxHeartbeats 1000000 in
/-- One row is appended. -/
theorem l_append_row {t e e3 : TypeId} {bytes : Nat} [ht : TSlice P t e] [he : TElem P e (.slice none 0 0) bytes] {x y : Operand} {h m k : Nat} {e' e2 T : TypeId} {xss : List (List Int)} {ys : List Int}
    (hx : AV.ev env x = .own h) (hs : os[h]? = some (.sls e' e2 xss)) (hee : e' = e) (hy : AV.ev env y = .osub m 0 1) (hm : os[m]? = some (.bx T [.own k])) (hk : os[k]? = some (.sli e3 ys)) (he3 : e3 = e2)
    (hb : (xss.length + 1) * bytes ≤ 140737488355328) :
    LOp P ⟨d, .call { callee := .builtin .append, args := #[x, y], argTypes := #[t, t] }, ty, pos, af, g⟩ env os (.own h) (env.mp (AV.rin k h xss.length)) (((os.map (AO.via (AV.rin k h xss.length) h)).set h (.sls e e2 (xss ++ [ys]))).set k .dead) := by
  subst hee
  subst he3
  intro base w gs tm hr
  have hxv := hr.ev x
  rw [hx] at hxv
  have hyv := hr.ev y
  rw [hy] at hyv
  generalize hv : Act.eval ⟨tm, []⟩ x = v at hxv
  generalize hu : Act.eval ⟨tm, []⟩ y = u at hyv
  have hne : h ≠ k := fun e => by subst e; rw [hs] at hk; cases hk
  cases hxv with
  | @own _ gh hg =>
  cases hyv with
  | @osub _ _ _ cap pa gm hgm hp hc hcm =>
    have epa := hp (by omega)
    subst epa
    obtain ⟨cs, m1, m2, m3, m4, m5, m6, m7⟩ := hr.ho _ _ _ hgm hm
    have hcs := m7 0
    simp only [List.getD_cons_zero] at hcs
    obtain ⟨c0, rfl⟩ : ∃ c0, cs = [c0] := by
      match cs, m5 with
      | [c0], _ => exact ⟨c0, rfl⟩
    simp only [List.getD_cons_zero] at hcs
    cases hcs with
    | @own _ gk hgk =>
    obtain ⟨vs, bs, mb, a1, a2, a3, a4, a5, a6, a7, a8⟩ := hr.ho _ _ _ hg hs
    obtain ⟨b1, b2, b3⟩ := hr.ho _ _ _ hgk hk
    obtain ⟨ua, uc, eu⟩ := ownsRow_slice b1
    obtain ⟨ii, hi, hsz, hz, hby⟩ := he.info
    have h64 : vs.length + 1 ≤ maxLen := by
      have := he.pos
      have : xss.length + 1 ≤ (xss.length + 1) * bytes := Nat.le_mul_of_pos_right _ this
      simp only [maxLen]; omega
    obtain ⟨v', w', r1, r2, r3, r4, r5⟩ := run_append_own_at (P := P) w base t ty e' ii _ 1 bytes ht.und hi hz hsz hby rfl (by omega) gh.v vs.length vs a1 ⟨gm.b, 0, none⟩ 1 cap [gk.v] (by simp)
      (fun j u hj => by
        have hj0 : j = 0 := by have := (List.getElem?_eq_some_iff.1 hj).1; simp at this; exact this
        subst hj0
        rw [add_none, cell_of_row w _ _ _ _ (0, 0) m1]
        simpa using hj)
      (fun u hu => by simp at hu; subst hu; rw [eu]; rfl) h64 (by rw [a2]; exact hb) hr.hb
    have emb : gh.v.ownBlock.toList = mb := by
      rcases a6 with ⟨c1, c2⟩ | ⟨c1, c2⟩
      · rw [c1, c2]; rfl
      · rw [c1, c2]; rfl
    have hgb : ∀ b, b ∉ gh.bl → some b ≠ gh.v.ownBlock := fun b hb e => hb (by rw [a7, ← emb, ← e]; simp)
    have hnotmb : ∀ b, b ∉ mb → some b ≠ gh.v.ownBlock := fun b hb e => hb (by rw [← emb, ← e]; simp)
    have hdis : ∀ c, c ∈ gk.bl → c ∉ gh.bl := hr.hd k h gk gh _ _ (fun e => hne e.symm) hgk hg hk hs (by simp) (by simp)
    have hlt : ∀ b, v'.ownBlock = some b → b < w'.heap.size := by
      intro b hb
      rcases r2.2 with ⟨e1, _⟩ | ⟨gg, cc, cur, e1, _, hgg, _⟩
      · rw [e1] at hb; cases hb
      · rw [e1] at hb; cases hb; exact (Array.getElem?_eq_some_iff.1 hgg).1
    have hhg : h < gs.length := (List.getElem?_eq_some_iff.1 hg).1
    have hbl0 : ∀ b, b ∈ gh.bl → b < w.heap.size := fun b hb => (hr.hn _ _ _ hg hs (by simp) b hb).2
    have hblk : ∀ b, b ∈ gk.bl → b < w.heap.size := fun b hb => (hr.hn _ _ _ hgk hk (by simp) b hb).2
    let g' : Gh := ⟨v', v'.ownBlock.getD 0, v'.ownBlock.toList ++ (bs ++ [gk.bl]).flatten, vs ++ [gk.v]⟩
    have efl : (bs ++ [gk.bl]).flatten = bs.flatten ++ gk.bl := by simp
    have hv'b : ∀ b, b ∈ v'.ownBlock.toList → v'.ownBlock = some b := fun b hb => by
      cases hvb : v'.ownBlock with
      | none => rw [hvb] at hb; simp at hb
      | some c => rw [hvb] at hb; simp at hb; rw [hb]
    have sv : RowIn h k xss.length gs (gs.set h g') := by
      refine ⟨fun j z hj hz => ?_, fun z hz => ⟨g', by simp [hhg], fun i u hiu => ?_⟩, fun z hz => ⟨g', by simp [hhg], ?_⟩⟩
      · rw [List.getElem?_set, if_neg (fun e => hj e.symm)]; exact hz
      · rw [hg] at hz; cases hz
        rw [a4] at hiu
        show (vs ++ [gk.v])[i]? = some u
        rw [List.getElem?_append_left (List.getElem?_eq_some_iff.1 hiu).1]; exact hiu
      · rw [hgk] at hz; cases hz
        show (vs ++ [gk.v])[xss.length]? = some gk.v
        rw [← a2]; simp
    -- a row's block is none of the outer one's
    have rowblk : ∀ (j : Nat) u, vs[j]? = some u → ∀ c, u.ownBlock = some c → c ∈ bs.flatten := by
      intro j u hj c hc
      have hjb : j < bs.length := by
        have := (List.getElem?_eq_some_iff.1 hj).1
        omega
      exact List.mem_flatten.2 ⟨bs.getD j [], by rw [List.getD_eq_getElem?_getD, List.getElem?_eq_getElem hjb]; simp, by rw [← (a5 j u hj).2.2, hc]; simp⟩
    have a8' : (mb ++ bs.flatten).Nodup := by rw [← a7]; exact a8
    have mbfl : ∀ b, b ∈ mb → b ∉ bs.flatten := fun b hb hb2 => (List.nodup_append.1 a8').2.2 b hb b hb2 rfl
    have keep : ∀ c, c < w.heap.size → c ∉ mb → w'.heap[c]? = w.heap[c]? := fun c hc hcm => r3.block c hc (hnotmb c hcm)
    refine ⟨v', w', gs.set h g', .inl ?_, hr.absorb hg hs trivial hgk hk trivial hne g' _ (AV.rin k h xss.length) rfl (fun b hb hn => r3.block b hb (hgb b hn)) r3.size ?_ (fun kp hv => hv.rin kp sv) ?_, ?_, ?_⟩
    · have r1' := r1
      simp only [execOp, resolve, invoke, builtin, Sem.run_bind, Sem.run_pure, Result.andThen_ok, List.map_toArray, List.map_cons, List.map_nil, hv, hu, r1']
    · intro b hb
      rcases List.mem_append.1 hb with hb | hb
      · have hb' := hv'b b hb
        refine ⟨?_, hlt b hb'⟩
        rcases r5 with r5 | r5
        · left
          rw [hb'] at r5
          exact Classical.byContradiction fun hn => hgb b hn r5
        · right; right
          rw [hb'] at r5; cases r5; exact Nat.le_refl _
      · rw [efl] at hb
        rcases List.mem_append.1 hb with hb | hb
        · have : b ∈ gh.bl := by rw [a7]; exact List.mem_append.2 (.inr hb)
          exact ⟨.inl this, Nat.lt_of_lt_of_le (hbl0 b this) r3.size⟩
        · exact ⟨.inr (.inl hb), Nat.lt_of_lt_of_le (hblk b hb) r3.size⟩
    · intro kp
      refine ⟨vs ++ [gk.v], bs ++ [gk.bl], v'.ownBlock.toList, ?_, by simp [a2], by simp [a3], rfl, fun j u hj => ?_, ?_, rfl, ?_⟩
      · simpa using r2
      · rw [List.getElem?_append] at hj
        split at hj
        · rename_i hjl
          obtain ⟨q1, q2, q3⟩ := a5 j u hj
          have g1 : (xss ++ [ys]).getD j [] = xss.getD j [] := by
            simp only [List.getD_eq_getElem?_getD]; rw [List.getElem?_append_left (by omega)]
          have g2 : (bs ++ [gk.bl]).getD j [] = bs.getD j [] := by
            simp only [List.getD_eq_getElem?_getD]; rw [List.getElem?_append_left (by omega)]
          rw [g1, g2]
          refine ⟨ownsRow_of_block q1 fun c hc => ?_, q2, q3⟩
          have hcf := rowblk j u hj c hc
          exact keep c (hbl0 c (by rw [a7]; exact List.mem_append.2 (.inr hcf))) fun hm => mbfl c hm hcf
        · rename_i hjl
          have hj0 : j = vs.length := by
            have := (List.getElem?_eq_some_iff.1 hj).1
            simp at this; omega
          subst hj0
          simp at hj
          subst hj
          have g1 : (xss ++ [ys]).getD vs.length [] = ys := by rw [a2]; simp [List.getD_eq_getElem?_getD]
          have g2 : (bs ++ [gk.bl]).getD vs.length [] = gk.bl := by rw [a2, ← a3]; simp [List.getD_eq_getElem?_getD]
          rw [g1, g2]
          refine ⟨ownsRow_of_block b1 fun c hc => ?_, b2, b3.list⟩
          have hcm := b3.mem hc
          exact keep c (hblk c hcm) fun hm => hdis c hcm (by rw [a7]; exact List.mem_append.2 (.inl hm))
      · show (v'.ownBlock = none ∧ v'.ownBlock.toList = []) ∨ (v'.ownBlock = some (v'.ownBlock.getD 0) ∧ v'.ownBlock.toList = [v'.ownBlock.getD 0])
        cases v'.ownBlock with
        | none => exact .inl ⟨rfl, rfl⟩
        | some b => exact .inr ⟨rfl, rfl⟩
      · show (v'.ownBlock.toList ++ (bs ++ [gk.bl]).flatten).Nodup
        rw [efl]
        refine nodup_rows a8' ?_ ?_ b3.nodup (fun b hb => by rw [← a7]; exact hdis b hb)
        · cases v'.ownBlock <;> simp
        · intro b hb
          have hb' := hv'b b hb
          rcases r5 with r5 | r5
          · rw [hb'] at r5
            have hm : b ∈ mb := by rw [← emb, ← r5]; simp
            exact ⟨mbfl b hm, fun hc => hdis b hc (by rw [a7]; exact List.mem_append.2 (.inl hm))⟩
          · rw [hb'] at r5
            cases r5
            refine ⟨fun hc => ?_, fun hc => ?_⟩
            · have := hbl0 w.heap.size (by rw [a7]; exact List.mem_append.2 (.inr hc)); omega
            · have := hblk w.heap.size hc; omega
    · exact RV.own (g := g') (by simp [hhg])
    · refine ⟨r3.os, r3.tape, r3.output, r3.size, fun b hb => r3.block b (by have := hr.hb; omega) (hgb b fun hm => ?_)⟩
      have := (hr.hn _ _ _ hg hs (by simp) b hm).1
      omega
end

section
variable {P : Program} {env : Env} {os : List AO} {d : Tmp} {ty : TypeId} {pos : String} {af : Array Edge} {l rest : List Oper} {K : APost}
theorem w_bsr0 {t e e2 : TypeId} {bytes : Nat} [TSlice P t e] [TElem P e (.slice none 0 0) bytes] [TSlice P e e2] {m : Nat} (hm : os.length = m) (h' : AOps P .seq l rest K (env.up d (.own m)) (os ++ [.sls e e2 []])) :
    AOps P .seq l (⟨some d, .buildSlice t 0 #[], ty, pos, af, none⟩ :: rest) K env os := AOps.lo (hm ▸ l_bsr0) h'
theorem w_bsr1 {t e e3 : TypeId} {bytes : Nat} [TSlice P t e] [TElem P e (.slice none 0 0) bytes] {x : Operand} {k m : Nat} {ys : List Int} (hx : evo env x = some (.own k)) (hk : os[k]? = some (.sli e3 ys)) (hm : os.length = m)
    (h' : AOps P .seq l rest K (env.up d (.osub m 0 1)) (os ++ [.bx e [.own k]])) :
    AOps P .seq l (⟨some d, .buildSlice t 1 #[(0, x)], ty, pos, af, none⟩ :: rest) K env os := AOps.lo (hm ▸ l_bsr1 (ev_of hx) hk) h'
theorem w_appr {t e e3 : TypeId} {bytes : Nat} [TSlice P t e] [TElem P e (.slice none 0 0) bytes] {x y : Operand} {h m k : Nat} {e' e2 T : TypeId} {xss : List (List Int)} {ys : List Int}
    (hx : evo env x = some (.own h)) (hs : os[h]? = some (.sls e' e2 xss)) (hee : e' = e) (hy : evo env y = some (.osub m 0 1)) (hm : os[m]? = some (.bx T [.own k])) (hk : os[k]? = some (.sli e3 ys)) (he3 : e3 = e2)
    (hb : (xss.length + 1) * bytes ≤ 140737488355328) (h' : AOps P .seq l rest K (Env.up (env.mp (AV.rin k h xss.length)) d (.own h)) (((os.map (AO.via (AV.rin k h xss.length) h)).set h (.sls e e2 (xss ++ [ys]))).set k .dead)) :
    AOps P .seq l (⟨some d, .call { callee := .builtin .append, args := #[x, y], argTypes := #[t, t] }, ty, pos, af, none⟩ :: rest) K env os :=
  AOps.lo (l_append_row (ev_of hx) hs hee (ev_of hy) hm hk he3 hb) h'
end
end Go.Proofs.Ytpllbdjobmgikaa
/-
  Own slices whose cells are rows of another own slice: literal ones, appends, cuts; the two made one. No condition.
-/
namespace Go.Proofs.Ytpllbdjobmgikaa
open Go Go.RowKit

theorem map_orow_kill (h k : Nat) (idx : List Nat) : (idx.map (AV.orow k)).map (AV.kill h) = idx.map (AV.orow k) := by
  rw [List.map_map]; rfl
theorem orow_kill (h k : Nat) (idx : List Nat) (j : Nat) : ((idx.map (AV.orow k)).getD j .any).kill h = (idx.map (AV.orow k)).getD j .any := by
  rw [← getD_map_kill, map_orow_kill]

section
variable {P : Program} {env : Env} {os : List AO} {d : Option Tmp} {ty : TypeId} {pos : String} {af : Array Edge} {g : Option (Nat × Bool)}

/-- An empty slice of rows. -/
theorem l_bsx0 {t e : TypeId} {bytes : Nat} [ht : TSlice P t e] [he : TElem P e (.slice none 0 0) bytes] (k : Nat) : LOp P ⟨d, .buildSlice t 0 #[], ty, pos, af, g⟩ env os (.own os.length) env (os ++ [.slr e (([] : List Nat).map (AV.orow k))]) := by
  refine l_new fun base w gs tm hr => ?_
  obtain ⟨ii, hi, hs, hz, hby⟩ := he.info
  refine ⟨w.alloc (.cells #[] e), ⟨.slice (some ⟨w.heap.size, 0, none⟩) 0 0, w.heap.size, [w.heap.size], []⟩, ?_, below_alloc w _, fun b hb => by simp at hb; simp [hb], fun ok gs' => ?_⟩
  · simp [execOp, Instr.buildSlice, run_underlying ht.und, sizeOf, typeInfo, hi, Instr.fill, newRow, ar0]
  · exact ⟨[], ⟨by simp, .inr ⟨w.heap.size, 0, _, rfl, hr.hb, heap_alloc_new w _, Nat.le_refl _, by simp [maxLen], by simp, by simp⟩⟩, rfl, fun i => .any _, .inr ⟨rfl, rfl⟩⟩

/-- A literal slice of one row of 'k'. -/
theorem l_bsx1 {t e : TypeId} {bytes : Nat} [ht : TSlice P t e] [he : TElem P e (.slice none 0 0) bytes] {x : Operand} {k i : Nat} {e2 e3 : TypeId} {xss : List (List Int)} (hx : AV.ev env x = .orow k i) (hk : os[k]? = some (.sls e2 e3 xss)) :
    LOp P ⟨d, .buildSlice t 1 #[(0, x)], ty, pos, af, g⟩ env os (.osub os.length 0 1) env (os ++ [.bx e [.orow k i]]) := by
  intro base w gs tm hr
  have hxv := hr.ev x
  rw [hx] at hxv
  generalize hv : Act.eval ⟨tm, []⟩ x = v at hxv
  cases hxv with
  | @orow _ _ gk _ hgk hrow =>
    obtain ⟨us, bs, mb, b1, b2, b3, b4, b5, _⟩ := hr.ho _ _ _ hgk hk
    have hu := hrow
    rw [b4] at hu
    obtain ⟨ua, uc, eu⟩ := ownsRow_slice (b5 _ _ hu).1
    obtain ⟨ii, hi, hs, hz, hby⟩ := he.info
    have hbel := below_alloc w (.cells [v].toArray e)
    have hlt : w.heap.size < (w.alloc (.cells [v].toArray e)).heap.size := by simp
    have hno : AO.bx e [.orow k i] ≠ .dead → ∀ b, b ∈ [w.heap.size] → w.heap.size ≤ b ∧ b < (w.alloc (.cells [v].toArray e)).heap.size := fun _ b hb => by simp at hb; omega
    let gn : Gh := ⟨.pointer (some ⟨w.heap.size, 0, none⟩), w.heap.size, [w.heap.size], []⟩
    have hgs : ∀ (i : Nat) g', gs[i]? = some g' → (gs ++ [gn])[i]? = some g' := fun i g' e => by
      rw [List.getElem?_append_left (List.getElem?_eq_some_iff.1 e).1]; exact e
    refine ⟨.slice (some ⟨w.heap.size, 0, none⟩) 1 1, _, gs ++ [gn], .inl ?_, hr.new hbel _ _ hno ?_, ?_, hbel.mono hr.hb⟩
    · simp [execOp, Instr.buildSlice, run_underlying ht.und, sizeOf, typeInfo, zeroValue, hi, hs, hz, Instr.fill, newRow, hv, eu, Value.cells, ar1]
    · refine ⟨[v], heap_alloc_new w _, hr.hb, rfl, rfl, rfl, ?_, fun i => ?_⟩
      · intro c hc; simp at hc; subst hc; rw [eu]; rfl
      · match i with
        | 0 => exact .orow (hgs _ _ hgk) hrow
        | i + 1 => exact .any _
    · have := RV.osub (w := w.alloc (.cells [v].toArray e)) (ok := okOf (gs ++ [gn]) (os ++ [.bx e [.orow k i]])) (off := 0) (len := 1) (cap := 1) (p := some ⟨w.heap.size, 0, none⟩) (len_new (gs := gs) (g := gn)) (fun _ => rfl) (Nat.le_refl _) (by simp [maxLen])
      rw [hr.hl] at this
      exact this

set_option maxHeartbeats 1000000 in
/-- One row is appended. -/
theorem l_append_x {t e : TypeId} {bytes : Nat} [ht : TSlice P t e] [he : TElem P e (.slice none 0 0) bytes] {x y : Operand} {h m k i : Nat} {e' T : TypeId} {idx : List Nat}
    (hx : AV.ev env x = .own h) (hs : os[h]? = some (.slr e' (idx.map (AV.orow k)))) (hee : e' = e) (hy : AV.ev env y = .osub m 0 1) (hm : os[m]? = some (.bx T [.orow k i])) (hb : (idx.length + 1) * bytes ≤ 140737488355328) :
    LOp P ⟨d, .call { callee := .builtin .append, args := #[x, y], argTypes := #[t, t] }, ty, pos, af, g⟩ env os (.own h) (env.mp (AV.kill h)) ((os.map (AO.kill h)).set h (.slr e ((idx ++ [i]).map (AV.orow k)))) := by
  subst hee
  intro base w gs tm hr
  have hxv := hr.ev x
  rw [hx] at hxv
  have hyv := hr.ev y
  rw [hy] at hyv
  generalize hv : Act.eval ⟨tm, []⟩ x = v at hxv
  generalize hu : Act.eval ⟨tm, []⟩ y = u at hyv
  cases hxv with
  | @own _ gh hg =>
  cases hyv with
  | @osub _ _ _ cap pa gm hgm hp hc hcm =>
    have epa := hp (by omega)
    subst epa
    obtain ⟨cs, m1, m2, m3, m4, m5, m6, m7⟩ := hr.ho _ _ _ hgm hm
    have hcs := m7 0
    simp only [List.getD_cons_zero] at hcs
    obtain ⟨c0, rfl⟩ : ∃ c0, cs = [c0] := by
      match cs, m5 with
      | [c0], _ => exact ⟨c0, rfl⟩
    simp only [List.getD_cons_zero] at hcs
    obtain ⟨vs, a1, a2, a3, a4⟩ := hr.ho _ _ _ hg hs
    have a2' : vs.length = idx.length := by simpa using a2
    obtain ⟨ii, hi, hsz, hz, hby⟩ := he.info
    have h64 : vs.length + 1 ≤ maxLen := by
      have := he.pos
      have : idx.length + 1 ≤ (idx.length + 1) * bytes := Nat.le_mul_of_pos_right _ this
      simp only [maxLen]; omega
    obtain ⟨v', w', r1, r2, r3, r4, r5⟩ := run_append_own_at (P := P) w base t ty e' ii _ 1 bytes ht.und hi hz hsz hby rfl (by omega) gh.v vs.length vs a1 ⟨gm.b, 0, none⟩ 1 cap [c0] (by simp)
      (fun j u hj => by
        have hj0 : j = 0 := by have := (List.getElem?_eq_some_iff.1 hj).1; simp at this; exact this
        subst hj0
        rw [add_none, cell_of_row w _ _ _ _ (0, 0) m1]
        simpa using hj)
      (fun u hu => by simp at hu; subst hu; exact m6 _ (by simp)) h64 (by rw [a2']; exact hb) hr.hb
    have hgb : ∀ b, b ∉ gh.bl → some b ≠ gh.v.ownBlock := fun b hb e => hb (a4.mem e.symm)
    let g' : Gh := ⟨v', v'.ownBlock.getD 0, v'.ownBlock.toList, gh.rows⟩
    have hgb' : GB g' := by
      show (v'.ownBlock = none ∧ v'.ownBlock.toList = []) ∨ (v'.ownBlock = some (v'.ownBlock.getD 0) ∧ v'.ownBlock.toList = [v'.ownBlock.getD 0])
      cases v'.ownBlock with
      | none => exact .inl ⟨rfl, rfl⟩
      | some b => exact .inr ⟨rfl, rfl⟩
    have hlt : ∀ b, v'.ownBlock = some b → b < w'.heap.size := by
      intro b hb
      rcases r2.2 with ⟨e1, _⟩ | ⟨gg, cc, cur, e1, _, hgg, _⟩
      · rw [e1] at hb; cases hb
      · rw [e1] at hb; cases hb; exact (Array.getElem?_eq_some_iff.1 hgg).1
    refine ⟨v', w', gs.set h g', .inl ?_, hr.turn hg hs trivial g' (.slr e' ((idx ++ [i]).map (AV.orow k))) (fun b hb hn => r3.block b hb (hgb b hn)) r3.size ?_ (fun i v hv => hv) ?_, ?_, ?_⟩
    · have r1' := r1
      simp only [execOp, resolve, invoke, builtin, Sem.run_bind, Sem.run_pure, Result.andThen_ok, List.map_toArray, List.map_cons, List.map_nil, hv, hu, r1']
    · intro b hb
      have hb' : v'.ownBlock = some b := by
        have hb2 : b ∈ v'.ownBlock.toList := hb
        cases hvb : v'.ownBlock with
        | none => rw [hvb] at hb2; simp at hb2
        | some c => rw [hvb] at hb2; simp at hb2; rw [hb2]
      refine ⟨?_, hlt b hb'⟩
      rcases r5 with r5 | r5
      · left; rw [hb'] at r5; exact a4.mem r5.symm
      · right; rw [hb'] at r5; cases r5; exact Nat.le_refl _
    · intro kp tn
      refine ⟨vs ++ [c0], by simpa using r2, by simp [a2'], fun j => ?_, hgb'⟩
      rcases Nat.lt_trichotomy j vs.length with hj | hj | hj
      · have e1 : (vs ++ [c0]).getD j undef = vs.getD j undef := by simp only [List.getD_eq_getElem?_getD]; rw [List.getElem?_append_left hj]
        have e2 : ((idx ++ [i]).map (AV.orow k)).getD j .any = (idx.map (AV.orow k)).getD j .any := by
          rw [List.map_append]; simp only [List.getD_eq_getElem?_getD]; rw [List.getElem?_append_left (by simp; omega)]
        rw [e1, e2, ← orow_kill h]
        exact (a3 j).kill kp tn
      · subst hj
        have e1 : (vs ++ [c0]).getD vs.length undef = c0 := by simp [List.getD_eq_getElem?_getD]
        have e2 : ((idx ++ [i]).map (AV.orow k)).getD vs.length .any = .orow k i := by
          rw [List.map_append, a2']; simp [List.getD_eq_getElem?_getD]
        rw [e1, e2]
        exact hcs.kill (h := h) kp tn
      · have e2 : ((idx ++ [i]).map (AV.orow k)).getD j .any = .any := by
          rw [List.getD_eq_getElem?_getD, List.getElem?_eq_none (by simp; omega)]; rfl
        rw [e2]
        exact .any _
    · have hk : h < gs.length := (List.getElem?_eq_some_iff.1 hg).1
      exact RV.own (g := g') (by simp [hk])
    · refine ⟨r3.os, r3.tape, r3.output, r3.size, fun b hb => r3.block b (by have := hr.hb; omega) (hgb b fun hm => ?_)⟩
      have := (hr.hn _ _ _ hg hs (by simp) b hm).1
      omega

/-- The slice is cut behind. -/
theorem l_cut_x {t e : TypeId} [ht : TSlice P t e] [he : TCell P e] {x y : Operand} {h k : Nat} {e' : TypeId} {idx : List Nat} {n : Int} (hx : AV.ev env x = .own h) (hs : os[h]? = some (.slr e' (idx.map (AV.orow k)))) (hy : AV.ev env y = .i n) (h0 : 0 < n) (h1 : n ≤ idx.length) :
    LOp P ⟨d, .slice t x none (some y) none, ty, pos, af, g⟩ env os (.own h) (env.mp (AV.kill h)) ((os.map (AO.kill h)).set h (.slr e' ((idx.take n.toNat).map (AV.orow k)))) := by
  intro base w gs tm hr
  have hxv := hr.ev x
  rw [hx] at hxv
  generalize hv : Act.eval ⟨tm, []⟩ x = v at hxv
  cases hxv with
  | @own _ gh hg =>
    obtain ⟨vs, a1, a2, a3, a4⟩ := hr.ho _ _ _ hg hs
    have a2' : vs.length = idx.length := by simpa using a2
    rcases a1.2 with ⟨_, c2⟩ | ⟨gg, cap, cur, c1, c2, c3, c4, c5, c6, c7⟩
    · omega
    have e1 := elem_of (P := P) ht.und
    have hrun := run_slice_h (P := P) w t (some ⟨gg, 0, none⟩) vs.length cap (by rw [e1]; exact ht.und) .i64 n (by omega) (by omega)
    rw [e1, run_size] at hrun
    have hat := run_sliceAt_slice (P := P) w t (.slice (some ⟨gg, 0, none⟩) vs.length cap) none (some (.int .i64 n)) none (by rw [e1]; exact ht.und)
    have ev' : sliced (some ⟨gg, 0, none⟩) 0 n.toNat cap 1 = .slice (some ⟨gg, 0, none⟩) n.toNat cap := by
      rw [sliced, if_neg (by omega)]; simp [add_none]
    let g' : Gh := ⟨.slice (some ⟨gg, 0, none⟩) n.toNat cap, gh.b, gh.bl, gh.rows⟩
    have egg : gh.b = gg ∧ gh.bl = [gg] := by
      rcases a4 with ⟨q1, _⟩ | ⟨q1, q2⟩
      · rw [c1] at q1; cases q1
      · rw [c1] at q1; cases q1; exact ⟨rfl, q2⟩
    have hlt : gg < w.heap.size := (Array.getElem?_eq_some_iff.1 c3).1
    refine ⟨.slice (some ⟨gg, 0, none⟩) n.toNat cap, w, gs.set h g', .inl ?_, hr.turn hg hs trivial g' (.slr e' ((idx.take n.toNat).map (AV.orow k))) (fun b hb hn => rfl) (Nat.le_refl _) (fun b hb => ⟨.inl hb, ?_⟩) (fun i v hv => hv) ?_, ?_, Below.refl _ _⟩
    · simp only [execOp, hv, c1, hr.evv hy, Option.map_none, Option.map_some, Sem.run_bind, hat, hrun, Result.andThen_ok, Sem.run_pure, ev']
    · have hb2 : b ∈ gh.bl := hb
      rw [egg.2] at hb2
      simp at hb2
      omega
    · intro kp tn
      refine ⟨vs.take n.toNat, ⟨by simp, .inr ⟨gg, cap, cur, ?_, c2, c3, ?_, c5, c6, ?_⟩⟩, by simp; omega, fun j => ?_, .inr ⟨?_, ?_⟩⟩
      · show Value.slice (some ⟨gg, 0, none⟩) n.toNat cap = _
        have : (vs.take n.toNat).length = n.toNat := by simp; omega
        rw [this]
      · simp; omega
      · rw [← c7, List.take_take]
        congr 1
        simp; omega
      · by_cases hj : j < n.toNat
        · have q1 : (vs.take n.toNat).getD j undef = vs.getD j undef := by simp only [List.getD_eq_getElem?_getD]; rw [List.getElem?_take, if_pos hj]
          have q2 : ((idx.take n.toNat).map (AV.orow k)).getD j .any = (idx.map (AV.orow k)).getD j .any := by
            rw [List.map_take]; simp only [List.getD_eq_getElem?_getD]; rw [List.getElem?_take, if_pos hj]
          rw [q1, q2, ← orow_kill h]
          exact (a3 j).kill kp tn
        · have q2 : ((idx.take n.toNat).map (AV.orow k)).getD j .any = .any := by
            rw [List.getD_eq_getElem?_getD, List.getElem?_eq_none (by simp; omega)]; rfl
          rw [q2]
          exact .any _
      · show Value.ownBlock (Value.slice (some ⟨gg, 0, none⟩) n.toNat cap) = some gh.b
        rw [egg.1]; rfl
      · show gh.bl = [gh.b]
        rw [egg.2, egg.1]
    · have hk : h < gs.length := (List.getElem?_eq_some_iff.1 hg).1
      exact RV.own (g := g') (by simp [hk])
end

theorem nodup_sel {bs : List (List Nat)} {idx : List Nat} (h : bs.flatten.Nodup) (hi : idx.Nodup) (hlt : ∀ i ∈ idx, i < bs.length) : ((idx.map fun i => bs.getD i []).flatten).Nodup := by
  unfold List.Nodup at h ⊢
  rw [List.pairwise_flatten] at h ⊢
  obtain ⟨h1, h2⟩ := h
  refine ⟨?_, ?_⟩
  · intro l hl
    obtain ⟨i, hi', rfl⟩ := List.mem_map.1 hl
    have := hlt i hi'
    rw [List.getD_eq_getElem?_getD, List.getElem?_eq_getElem this]
    exact h1 _ (List.getElem_mem this)
  · rw [List.pairwise_map]
    refine List.Pairwise.imp_of_mem ?_ hi
    intro a b ha hb hab
    have la := hlt a ha
    have lb := hlt b hb
    rw [List.getD_eq_getElem?_getD, List.getElem?_eq_getElem la, List.getD_eq_getElem?_getD, List.getElem?_eq_getElem lb]
    rw [List.pairwise_iff_getElem] at h2
    rcases Nat.lt_or_gt_of_ne hab with hl | hl
    · exact h2 a b la lb hl
    · exact fun x hx y hy e => h2 b a lb la hl y hy x hx e.symm

set_option maxHeartbeats 1000000 in
/-- The slice 'p' of rows of 'k' takes these rows; the rest of 'k' is no more. -/
theorem Rel.merge {base : Nat} {w : World} {gs : List Gh} {env : Env} {os : List AO} {tm : Array Value} (h : Rel base w gs env os tm) {p k : Nat} {e e2 e3 : TypeId} {xss : List (List Int)} {idx : List Nat} (hs : os[p]? = some (.slr e (idx.map (AV.orow k)))) (hk : os[k]? = some (.sls e3 e2 xss)) (hnd : idx.Nodup) :
    ∃ gs', Rel base w gs' (env.mp (AV.noRow p)) (((os.map (AO.via (AV.noRow p) p)).set p (.sls e e2 (idx.map fun i => xss.getD i []))).set k .dead) tm := by
  have hne : p ≠ k := fun e => by subst e; rw [hs] at hk; cases hk
  have hpo : p < os.length := (List.getElem?_eq_some_iff.1 hs).1
  have hko : k < os.length := (List.getElem?_eq_some_iff.1 hk).1
  obtain ⟨gp, hgp⟩ : ∃ x, gs[p]? = some x := ⟨_, List.getElem?_eq_getElem (by rw [h.hl]; exact hpo)⟩
  obtain ⟨gk, hgk⟩ : ∃ x, gs[k]? = some x := ⟨_, List.getElem?_eq_getElem (by rw [h.hl]; exact hko)⟩
  obtain ⟨vs, a1, a2, a3, a4⟩ := h.ho _ _ _ hgp hs
  obtain ⟨us, bs, mb, b1, b2, b3, b4, b5, b6, b7, b8⟩ := h.ho _ _ _ hgk hk
  have a2' : vs.length = idx.length := by simpa using a2
  have row : ∀ (j : Nat) u, vs[j]? = some u → ∃ i, idx[j]? = some i ∧ us[i]? = some u := by
    intro j u hj
    have hjl := (List.getElem?_eq_some_iff.1 hj).1
    have hrv := a3 j
    obtain ⟨i, hi⟩ : ∃ i, idx[j]? = some i := ⟨_, List.getElem?_eq_getElem (by omega)⟩
    rw [List.getD_eq_getElem?_getD, hj, List.getD_eq_getElem?_getD, List.getElem?_map, hi] at hrv
    simp only [Option.getD_some, Option.map_some] at hrv
    cases hrv with
    | @orow _ _ g0 _ q1 q2 =>
      rw [hgk] at q1
      cases q1
      rw [b4] at q2
      exact ⟨i, hi, q2⟩
  have hidx : ∀ i ∈ idx, i < bs.length := by
    intro i hi
    obtain ⟨j, hj⟩ := List.getElem?_of_mem hi
    have hjl := (List.getElem?_eq_some_iff.1 hj).1
    obtain ⟨i', q1, q2⟩ := row j _ (List.getElem?_eq_getElem (by omega))
    rw [hj] at q1
    cases q1
    have := (List.getElem?_eq_some_iff.1 q2).1
    omega
  let cs : List (List Nat) := idx.map fun i => bs.getD i []
  let g' : Gh := ⟨gp.v, gp.b, gp.bl ++ cs.flatten, vs⟩
  have hcs : ∀ b, b ∈ cs.flatten → b ∈ bs.flatten := by
    intro b hb
    obtain ⟨l, hl, hbl⟩ := List.mem_flatten.1 hb
    obtain ⟨i, hi, rfl⟩ := List.mem_map.1 hl
    have hil := hidx i hi
    rw [List.getD_eq_getElem?_getD, List.getElem?_eq_getElem hil] at hbl
    exact List.mem_flatten.2 ⟨_, List.getElem_mem hil, hbl⟩
  have hsk : ∀ b, b ∈ cs.flatten → b ∈ gk.bl := fun b hb => by rw [b7]; exact List.mem_append.2 (.inr (hcs b hb))
  have hgl : p < gs.length := by rw [h.hl]; exact hpo
  have sv : SameV p gs (gs.set p g') := by
    refine ⟨fun j z hj hz => ?_, fun z hz => ⟨g', by simp [hgl], ?_, ?_⟩⟩
    · rw [List.getElem?_set, if_neg (fun e => hj e.symm)]; exact hz
    · rw [hgp] at hz; cases hz; rfl
    · rw [hgp] at hz; cases hz; rfl
  refine ⟨gs.set p g', h.absorb hgp hs trivial hgk hk trivial hne g' _ (AV.noRow p) rfl (fun _ _ _ => rfl) (Nat.le_refl _) ?_ (fun kp hv => hv.noRow kp sv) ?_⟩
  · intro b hb
    rcases List.mem_append.1 hb with hb | hb
    · exact ⟨.inl hb, (h.hn _ _ _ hgp hs (by simp) b hb).2⟩
    · exact ⟨.inr (.inl (hsk b hb)), (h.hn _ _ _ hgk hk (by simp) b (hsk b hb)).2⟩
  · intro kp
    refine ⟨vs, cs, gp.bl, a1, by simp [a2'], by simp [cs], rfl, fun j u hj => ?_, a4, rfl, ?_⟩
    · obtain ⟨i, q1, q2⟩ := row j u hj
      have g1 : (idx.map fun i => xss.getD i []).getD j [] = xss.getD i [] := by
        rw [List.getD_eq_getElem?_getD, List.getElem?_map, q1]; rfl
      have g2 : cs.getD j [] = bs.getD i [] := by
        show (idx.map fun i => bs.getD i []).getD j [] = _
        rw [List.getD_eq_getElem?_getD, List.getElem?_map, q1]; rfl
      rw [g1, g2]
      exact b5 i u q2
    · show (gp.bl ++ cs.flatten).Nodup
      rw [List.nodup_append]
      refine ⟨a4.nodup, nodup_sel ?_ hnd hidx, ?_⟩
      · rw [b7] at b8
        exact (List.nodup_append.1 b8).2.1
      · intro a ha b hb e
        subst e
        exact h.hd p k gp gk _ _ hne hgp hgk hs hk (by simp) (by simp) a ha (hsk a hb)

theorem AWp.merge {P : Program} {c : Code} {N : APost} {X : Nat → APost} {Rt : APost} {env : Env} {os : List AO} {p k : Nat} {e e2 e3 : TypeId} {xss : List (List Int)} {idx : List Nat} (hs : os[p]? = some (.slr e (idx.map (AV.orow k)))) (hk : os[k]? = some (.sls e3 e2 xss)) (hnd : idx.Nodup)
    (h : AWp P c N X Rt (env.mp (AV.noRow p)) (((os.map (AO.via (AV.noRow p) p)).set p (.sls e e2 (idx.map fun i => xss.getD i []))).set k .dead)) : AWp P c N X Rt env os := by
  intro base w0 w gs tm hr hb
  obtain ⟨gs', hr'⟩ := hr.merge hs hk hnd
  exact h base w0 w gs' tm hr' hb

section
variable {P : Program} {env : Env} {os : List AO} {d : Tmp} {ty : TypeId} {pos : String} {af : Array Edge} {l rest : List Oper} {K : APost}
theorem w_bsx0 {t e : TypeId} {bytes : Nat} [TSlice P t e] [TElem P e (.slice none 0 0) bytes] {m : Nat} (k : Nat) (hm : os.length = m) (h' : AOps P .seq l rest K (env.up d (.own m)) (os ++ [.slr e (([] : List Nat).map (AV.orow k))])) :
    AOps P .seq l (⟨some d, .buildSlice t 0 #[], ty, pos, af, none⟩ :: rest) K env os := AOps.lo (hm ▸ l_bsx0 k) h'
theorem w_bsx1 {t e : TypeId} {bytes : Nat} [TSlice P t e] [TElem P e (.slice none 0 0) bytes] {x : Operand} {k i m : Nat} {e2 e3 : TypeId} {xss : List (List Int)} (hx : evo env x = some (.orow k i)) (hk : os[k]? = some (.sls e2 e3 xss)) (hm : os.length = m)
    (h' : AOps P .seq l rest K (env.up d (.osub m 0 1)) (os ++ [.bx e [.orow k i]])) :
    AOps P .seq l (⟨some d, .buildSlice t 1 #[(0, x)], ty, pos, af, none⟩ :: rest) K env os := AOps.lo (hm ▸ l_bsx1 (ev_of hx) hk) h'
theorem w_appx {t e : TypeId} {bytes : Nat} [TSlice P t e] [TElem P e (.slice none 0 0) bytes] {x y : Operand} {h m k i : Nat} {e' T : TypeId} {idx : List Nat}
    (hx : evo env x = some (.own h)) (hs : os[h]? = some (.slr e' (idx.map (AV.orow k)))) (hee : e' = e) (hy : evo env y = some (.osub m 0 1)) (hm : os[m]? = some (.bx T [.orow k i])) (hb : (idx.length + 1) * bytes ≤ 140737488355328)
    (h' : AOps P .seq l rest K (Env.up (env.mp (AV.kill h)) d (.own h)) ((os.map (AO.kill h)).set h (.slr e ((idx ++ [i]).map (AV.orow k))))) :
    AOps P .seq l (⟨some d, .call { callee := .builtin .append, args := #[x, y], argTypes := #[t, t] }, ty, pos, af, none⟩ :: rest) K env os := AOps.lo (l_append_x (ev_of hx) hs hee (ev_of hy) hm hb) h'
theorem w_cutx {t e : TypeId} [TSlice P t e] [TCell P e] {x y : Operand} {h k : Nat} {e' : TypeId} {idx : List Nat} {n : Int} (hx : evo env x = some (.own h)) (hs : os[h]? = some (.slr e' (idx.map (AV.orow k)))) (hy : evo env y = some (.i n)) (h0 : 0 < n) (h1 : n ≤ idx.length)
    (h' : AOps P .seq l rest K (Env.up (env.mp (AV.kill h)) d (.own h)) ((os.map (AO.kill h)).set h (.slr e' ((idx.take n.toNat).map (AV.orow k))))) :
    AOps P .seq l (⟨some d, .slice t x none (some y) none, ty, pos, af, none⟩ :: rest) K env os := AOps.lo (l_cut_x (ev_of hx) hs (ev_of hy) h0 h1) h'
end
end Go.Proofs.Ytpllbdjobmgikaa
/-
  Own slices put together out of rows of another one and of one more row; functions that are handed an own slice of rows and hand one back in its place. No condition.
-/
namespace Go.Proofs.Ytpllbdjobmgikaa
open Go Go.RowKit

/-- Object 'p' takes the blocks of the objects 'k' and 'm', which are no more. -/
theorem Rel.absorb2 {base : Nat} {w w' : World} {gs : List Gh} {env : Env} {os : List AO} {tm : Array Value} (h : Rel base w gs env os tm) {p k : Nat} {g gk : Gh} {o ok : AO} (hg : gs[p]? = some g) (ho : os[p]? = some o) (hlv : o.live)
    (hgk : gs[k]? = some gk) (hok : os[k]? = some ok) (hlk : ok.live) (hpk : p ≠ k) {m : Nat} {gm : Gh} {om : AO} (hgm : gs[m]? = some gm) (hom : os[m]? = some om) (hlm : om.live) (hpm : p ≠ m) (g' : Gh) (o' : AO) (f : AV → AV) (hf : f .any = .any)
    (hw : ∀ b, b < w.heap.size → b ∉ g.bl → w'.heap[b]? = w.heap[b]?) (hsz : w.heap.size ≤ w'.heap.size)
    (hbl : ∀ b, b ∈ g'.bl → (b ∈ g.bl ∨ b ∈ gk.bl ∨ b ∈ gm.bl ∨ w.heap.size ≤ b) ∧ b < w'.heap.size)
    (hrv : ∀ {ok' : Nat → Prop} {v : Value} {a : AV}, Keeps (okOf gs os) ok' w w' → RV w (okOf gs os) gs v a → RV w' ok' (gs.set p g') v (f a))
    (hro : Keeps (okOf gs os) (okOf (gs.set p g') ((((os.map (AO.via f p)).set p o').set k .dead).set m .dead)) w w' → RO base w' (okOf (gs.set p g') ((((os.map (AO.via f p)).set p o').set k .dead).set m .dead)) (gs.set p g') g' o') :
    Rel base w' (gs.set p g') (env.mp f) ((((os.map (AO.via f p)).set p o').set k .dead).set m .dead) tm := by
  have hnd := hlv.ne
  have hnk := hlk.ne
  have hnm := hlm.ne
  have hpg : p < gs.length := (List.getElem?_eq_some_iff.1 hg).1
  have hpo : p < os.length := (List.getElem?_eq_some_iff.1 ho).1
  have hko : k < os.length := (List.getElem?_eq_some_iff.1 hok).1
  have hmo : m < os.length := (List.getElem?_eq_some_iff.1 hom).1
  have gset : ∀ {i : Nat} {x : Gh}, (gs.set p g')[i]? = some x → (i = p ∧ x = g') ∨ (i ≠ p ∧ gs[i]? = some x) := by
    intro i x e
    rw [List.getElem?_set] at e
    split at e
    · subst_vars; simp at e; exact .inl ⟨rfl, e.symm⟩
    · exact .inr ⟨fun e' => by simp_all, e⟩
  -- an object of the new state that is there
  have oset : ∀ {i : Nat} {x : AO}, ((((os.map (AO.via f p)).set p o').set k .dead).set m .dead)[i]? = some x → x ≠ .dead → i ≠ k ∧ i ≠ m ∧ ((i = p ∧ x = o') ∨ (i ≠ p ∧ ∃ y, os[i]? = some y ∧ x = y.via f p)) := by
    intro i x e hx
    rw [List.getElem?_set] at e
    split at e
    · subst_vars; simp [hmo] at e; exact absurd e.symm hx
    rename_i him
    rw [List.getElem?_set] at e
    split at e
    · subst_vars; simp [hko] at e; exact absurd e.symm hx
    · rename_i hik
      refine ⟨fun e' => hik e'.symm, fun e' => him e'.symm, ?_⟩
      rw [List.getElem?_set] at e
      split at e
      · subst_vars; simp [hpo] at e; exact .inl ⟨rfl, e.symm⟩
      · refine .inr ⟨fun e' => by simp_all, ?_⟩
        rw [List.getElem?_map] at e
        cases hy : os[i]? with
        | none => simp [hy] at e
        | some y => simp [hy] at e; exact ⟨y, rfl, e.symm⟩
  have kp : Keeps (okOf gs os) (okOf (gs.set p g') ((((os.map (AO.via f p)).set p o').set k .dead).set m .dead)) w w' := by
    intro b hb hlt
    refine ⟨?_, hw b hlt (hb p g o hg ho hlv)⟩
    intro i x y hx hy hny hmem
    obtain ⟨hik, him, hy'⟩ := oset hy hny.ne
    rcases gset hx with ⟨rfl, rfl⟩ | ⟨hi, hx'⟩
    · rcases (hbl b hmem).1 with h1 | h1 | h1 | h1
      · exact hb i g o hg ho hlv h1
      · exact hb k gk ok hgk hok hlk h1
      · exact hb m gm om hgm hom hlm h1
      · omega
    · rcases hy' with ⟨rfl, rfl⟩ | ⟨_, z, hz, rfl⟩
      · exact hi rfl
      · exact hb i x z hx' hz (AO.via_live.1 hny) hmem
  refine ⟨Nat.le_trans h.hb hsz, by simp [h.hl], h.hs, fun i => by rw [Env.lk_mp _ hf]; exact hrv kp (h.he i), ?_, ?_, ?_⟩
  · intro i x y hx hy
    by_cases hyd : y = .dead
    · subst hyd; trivial
    · obtain ⟨hik, him, hy'⟩ := oset hy hyd
      rcases gset hx with ⟨rfl, rfl⟩ | ⟨hi, hx'⟩
      · rcases hy' with ⟨_, rfl⟩ | ⟨hi, _⟩
        · exact hro kp
        · exact absurd rfl hi
      · rcases hy' with ⟨rfl, rfl⟩ | ⟨_, z, hz, rfl⟩
        · exact absurd rfl hi
        · have hz' := h.ho i x z hx' hz
          have same : z ≠ .dead → ∀ b, b ∈ x.bl → w'.heap[b]? = w.heap[b]? := fun hn b hb =>
            hw b (h.hn i x z hx' hz hn b hb).2 (h.hd i p x g z o hi hx' hg hz ho hn hnd b hb)
          cases z with
          | ob q => exact q.up (fun b hb => same (by simp) b hb) hz'
          | bx T avs =>
            obtain ⟨cs, h1, h2, h3, h4, h5, h6, h7⟩ := hz'
            exact ⟨cs, by rw [same (by simp) x.b (by simp [h3])]; exact h1, h2, h3, h4, by simpa using h5, h6, fun j => by rw [getD_map_f _ hf]; exact hrv kp (h7 j)⟩
          | keep n K =>
            obtain ⟨h1, h2, h3⟩ := hz'
            have hs : ∀ b, b ∈ x.bl → w'.heap[b]? = K.snap b := fun b hb => by rw [same (by simp) b hb]; exact h1 b hb
            simp only [AO.via]
            split
            · exact ⟨hs, rfl, fun i x hx => by simp at hx⟩
            · refine ⟨hs, h2, fun i y hy => ?_⟩
              have := (List.getElem?_eq_some_iff.1 hy).1
              rw [List.getElem?_set, if_neg (by omega)]
              exact h3 i y hy
          | dead => trivial
          | sli e xs =>
            obtain ⟨h1, h2, h3⟩ := hz'
            exact ⟨ownsRow_of_block h1 fun b hb => same (by simp) b (h3.mem hb), h2, h3⟩
          | slr e avs =>
            obtain ⟨vs, h1, h2, h3, h4⟩ := hz'
            exact ⟨vs, ownsRow_of_block h1 fun b hb => same (by simp) b (h4.mem hb), by simpa using h2, fun j => by rw [getD_map_f _ hf]; exact hrv kp (h3 j), h4⟩
          | sls e e2 xss =>
            obtain ⟨vs, bs, mb, h1, h2, h3, h4, h5, h6, h7, h8⟩ := hz'
            refine ⟨vs, bs, mb, ownsRow_of_block h1 fun b hb => same (by simp) b ?_, h2, h3, h4, fun i u hu => ?_, h6, h7, h8⟩
            · rw [h7]
              rcases h6 with ⟨h6, _⟩ | ⟨h6, h6'⟩
              · rw [h6] at hb; cases hb
              · rw [h6] at hb; cases hb; simp [h6']
            · obtain ⟨r1, r2, r3⟩ := h5 i u hu
              refine ⟨ownsRow_of_block r1 fun b hb => same (by simp) b ?_, r2, r3⟩
              rw [h7]
              refine List.mem_append.2 (.inr (List.mem_flatten.2 ⟨bs.getD i [], ?_, by rw [← r3, hb]; simp⟩))
              have hi : i < bs.length := by
                have := (List.getElem?_eq_some_iff.1 hu).1
                omega
              rw [List.getD_eq_getElem?_getD, List.getElem?_eq_getElem hi]
              simp
  · -- what p has now is apart from all others
    have apart : ∀ {j : Nat} {x : Gh} {z : AO}, j ≠ p → j ≠ k → j ≠ m → gs[j]? = some x → os[j]? = some z → z ≠ .dead → ∀ b, b ∈ g'.bl → b ∉ x.bl := by
      intro j x z hjp hjk hjm hx hz hzn b hb hb2
      rcases (hbl b hb).1 with h1 | h1 | h1 | h1
      · exact h.hd p j g x o z (fun e => hjp e.symm) hg hx ho hz hnd hzn b h1 hb2
      · exact h.hd k j gk x ok z (fun e => hjk e.symm) hgk hx hok hz hnk hzn b h1 hb2
      · exact h.hd m j gm x om z (fun e => hjm e.symm) hgm hx hom hz hnm hzn b h1 hb2
      · have := (h.hn j x z hx hz hzn b hb2).2; omega
    intro i j g1 g2 o1 o2 hij hg1 hg2 ho1 ho2 hn1 hn2 b hb1 hb2
    obtain ⟨hik, him, ho1'⟩ := oset ho1 hn1
    obtain ⟨hjk, hjm, ho2'⟩ := oset ho2 hn2
    rcases gset hg1 with ⟨rfl, rfl⟩ | ⟨hi, hg1'⟩
    · rcases gset hg2 with ⟨rfl, _⟩ | ⟨hj, hg2'⟩
      · exact hij rfl
      · rcases ho2' with ⟨rfl, _⟩ | ⟨_, z, hz, rfl⟩
        · exact hij rfl
        · exact apart hj hjk hjm hg2' hz (fun e => hn2 (AO.via_dead.2 e)) b hb1 hb2
    · rcases ho1' with ⟨rfl, _⟩ | ⟨_, z, hz, rfl⟩
      · exact absurd rfl hi
      · have hzn : z ≠ .dead := fun e => hn1 (AO.via_dead.2 e)
        rcases gset hg2 with ⟨rfl, rfl⟩ | ⟨hj, hg2'⟩
        · exact apart hi hik him hg1' hz hzn b hb2 hb1
        · rcases ho2' with ⟨rfl, _⟩ | ⟨_, y, hy, rfl⟩
          · exact absurd rfl hj
          · exact h.hd i j g1 g2 z y hij hg1' hg2' hz hy hzn (fun e => hn2 (AO.via_dead.2 e)) b hb1 hb2
  · intro i x y hx hy hny b hb
    obtain ⟨hik, him, hy'⟩ := oset hy hny
    rcases gset hx with ⟨rfl, rfl⟩ | ⟨hi, hx'⟩
    · have := hbl b hb
      refine ⟨?_, this.2⟩
      rcases this.1 with h1 | h1 | h1 | h1
      · exact (h.hn i g o hg ho hnd b h1).1
      · exact (h.hn k gk ok hgk hok hnk b h1).1
      · exact (h.hn m gm om hgm hom hnm b h1).1
      · exact Nat.le_trans h.hb h1
    · rcases hy' with ⟨rfl, rfl⟩ | ⟨_, z, hz, rfl⟩
      · exact absurd rfl hi
      · have := h.hn i x z hx' hz (fun e => hny (AO.via_dead.2 e)) b hb
        exact ⟨this.1, Nat.lt_of_lt_of_le this.2 hsz⟩


theorem nodup_append3 {a b c : List Nat} (ha : a.Nodup) (hb : b.Nodup) (hc : c.Nodup) (hab : ∀ x ∈ a, x ∉ b) (hac : ∀ x ∈ a, x ∉ c) (hbc : ∀ x ∈ b, x ∉ c) : (a ++ (b ++ c)).Nodup := by
  rw [List.nodup_append]
  refine ⟨ha, ?_, ?_⟩
  · rw [List.nodup_append]
    exact ⟨hb, hc, fun x hx y hy e => hbc x hx (e ▸ hy)⟩
  · intro x hx y hy e
    subst e
    rcases List.mem_append.1 hy with hy | hy
    · exact hab x hx hy
    · exact hac x hx hy

set_option maxHeartbeats 2000000 in
/-- The slice 'p' of rows of 'k', with the row 'm' among them, takes them all; 'k' and 'm' are no more. -/
theorem Rel.gather {base : Nat} {w : World} {gs : List Gh} {env : Env} {os : List AO} {tm : Array Value} (h : Rel base w gs env os tm) {p k m : Nat} {e e2 e3 e4 : TypeId} {xss : List (List Int)} {ys : List Int} {i1 i2 : List Nat}
    (hs : os[p]? = some (.slr e (i1.map (AV.orow k) ++ .own m :: i2.map (AV.orow k)))) (hk : os[k]? = some (.sls e3 e2 xss)) (hm : os[m]? = some (.sli e4 ys)) (he : e4 = e2) (hnd : (i1 ++ i2).Nodup) :
    ∃ gs', Rel base w gs' (env.mp (AV.noRow p)) ((((os.map (AO.via (AV.noRow p) p)).set p (.sls e e2 (i1.map (fun i => xss.getD i []) ++ ys :: i2.map fun i => xss.getD i []))).set k .dead).set m .dead) tm := by
  subst he
  have hne : p ≠ k := fun e => by subst e; rw [hs] at hk; cases hk
  have hnm : p ≠ m := fun e => by subst e; rw [hs] at hm; cases hm
  have hkm : k ≠ m := fun e => by subst e; rw [hk] at hm; cases hm
  have hpo : p < os.length := (List.getElem?_eq_some_iff.1 hs).1
  have hko : k < os.length := (List.getElem?_eq_some_iff.1 hk).1
  have hmo : m < os.length := (List.getElem?_eq_some_iff.1 hm).1
  obtain ⟨gp, hgp⟩ : ∃ x, gs[p]? = some x := ⟨_, List.getElem?_eq_getElem (by rw [h.hl]; exact hpo)⟩
  obtain ⟨gk, hgk⟩ : ∃ x, gs[k]? = some x := ⟨_, List.getElem?_eq_getElem (by rw [h.hl]; exact hko)⟩
  obtain ⟨gm, hgm⟩ : ∃ x, gs[m]? = some x := ⟨_, List.getElem?_eq_getElem (by rw [h.hl]; exact hmo)⟩
  obtain ⟨vs, a1, a2, a3, a4⟩ := h.ho _ _ _ hgp hs
  obtain ⟨us, bs, mb, b1, b2, b3, b4, b5, b6, b7, b8⟩ := h.ho _ _ _ hgk hk
  obtain ⟨c1, c2, c3⟩ := h.ho _ _ _ hgm hm
  have a2' : vs.length = i1.length + (i2.length + 1) := by simpa using a2
  have row : ∀ (j : Nat) u i, vs[j]? = some u → ((i1.map (AV.orow k) ++ .own m :: i2.map (AV.orow k)) : List AV)[j]? = some (.orow k i) → us[i]? = some u := by
    intro j u i hj hi
    have hrv := a3 j
    rw [List.getD_eq_getElem?_getD, hj, List.getD_eq_getElem?_getD, hi] at hrv
    simp only [Option.getD_some] at hrv
    cases hrv with
    | @orow _ _ g0 _ q1 q2 =>
      rw [hgk] at q1
      cases q1
      rw [b4] at q2
      exact q2
  have rowm : ∀ (j : Nat) u, vs[j]? = some u → ((i1.map (AV.orow k) ++ .own m :: i2.map (AV.orow k)) : List AV)[j]? = some (.own m) → u = gm.v := by
    intro j u hj hi
    have hrv := a3 j
    rw [List.getD_eq_getElem?_getD, hj, List.getD_eq_getElem?_getD, hi] at hrv
    simp only [Option.getD_some] at hrv
    cases hrv with
    | own q1 =>
      rw [hgm] at q1
      cases q1
      rfl
  have at1 : ∀ j, j < i1.length → ((i1.map (AV.orow k) ++ .own m :: i2.map (AV.orow k)) : List AV)[j]? = some (.orow k (i1.getD j 0)) := fun j hj => by
    rw [List.getElem?_append_left (by simpa using hj), List.getElem?_map, List.getElem?_eq_getElem hj, List.getD_eq_getElem?_getD, List.getElem?_eq_getElem hj]; rfl
  have at2 : ((i1.map (AV.orow k) ++ .own m :: i2.map (AV.orow k)) : List AV)[i1.length]? = some (.own m) := by
    rw [List.getElem?_append_right (by simp)]; simp
  have at3 : ∀ j, j < i2.length → ((i1.map (AV.orow k) ++ .own m :: i2.map (AV.orow k)) : List AV)[i1.length + 1 + j]? = some (.orow k (i2.getD j 0)) := fun j hj => by
    rw [List.getElem?_append_right (by simp; omega)]
    simp only [List.length_map]
    rw [show i1.length + 1 + j - i1.length = j + 1 by omega, List.getElem?_cons_succ, List.getElem?_map, List.getElem?_eq_getElem hj, List.getD_eq_getElem?_getD, List.getElem?_eq_getElem hj]; rfl
  have hidx : ∀ i ∈ i1 ++ i2, i < bs.length := by
    intro i hi
    rcases List.mem_append.1 hi with hi | hi
    · obtain ⟨j, hj⟩ := List.getElem?_of_mem hi
      have hjl := (List.getElem?_eq_some_iff.1 hj).1
      have := row j _ _ (List.getElem?_eq_getElem (by omega)) (at1 j hjl)
      rw [List.getD_eq_getElem?_getD, hj] at this
      have := (List.getElem?_eq_some_iff.1 this).1
      simp only [Option.getD_some] at this
      omega
    · obtain ⟨j, hj⟩ := List.getElem?_of_mem hi
      have hjl := (List.getElem?_eq_some_iff.1 hj).1
      have := row (i1.length + 1 + j) _ _ (List.getElem?_eq_getElem (by omega)) (at3 j hjl)
      rw [List.getD_eq_getElem?_getD, hj] at this
      have := (List.getElem?_eq_some_iff.1 this).1
      simp only [Option.getD_some] at this
      omega
  let f1 : List (List Nat) := i1.map fun i => bs.getD i []
  let f2 : List (List Nat) := i2.map fun i => bs.getD i []
  let cs : List (List Nat) := f1 ++ gm.bl :: f2
  let g' : Gh := ⟨gp.v, gp.b, gp.bl ++ cs.flatten, vs⟩
  have hsub : ∀ (l : List Nat), (∀ i ∈ l, i < bs.length) → ∀ b, b ∈ (l.map fun i => bs.getD i []).flatten → b ∈ bs.flatten := by
    intro l hl b hb
    obtain ⟨r, hr, hbl⟩ := List.mem_flatten.1 hb
    obtain ⟨i, hi, rfl⟩ := List.mem_map.1 hr
    have hil := hl i hi
    rw [List.getD_eq_getElem?_getD, List.getElem?_eq_getElem hil] at hbl
    exact List.mem_flatten.2 ⟨_, List.getElem_mem hil, hbl⟩
  have h1 : ∀ b, b ∈ f1.flatten → b ∈ gk.bl := fun b hb => by rw [b7]; exact List.mem_append.2 (.inr (hsub i1 (fun i hi => hidx i (List.mem_append.2 (.inl hi))) b hb))
  have h2 : ∀ b, b ∈ f2.flatten → b ∈ gk.bl := fun b hb => by rw [b7]; exact List.mem_append.2 (.inr (hsub i2 (fun i hi => hidx i (List.mem_append.2 (.inr hi))) b hb))
  have ecs : cs.flatten = f1.flatten ++ (gm.bl ++ f2.flatten) := by simp [cs]
  have hcs : ∀ b, b ∈ cs.flatten → b ∈ gk.bl ∨ b ∈ gm.bl := fun b hb => by
    rw [ecs] at hb
    rcases List.mem_append.1 hb with hb | hb
    · exact .inl (h1 b hb)
    · rcases List.mem_append.1 hb with hb | hb
      · exact .inr hb
      · exact .inl (h2 b hb)
  have dkm : ∀ b, b ∈ gk.bl → b ∉ gm.bl := fun b hb => h.hd k m gk gm _ _ hkm hgk hgm hk hm (by simp) (by simp) b hb
  have dpk : ∀ b, b ∈ gp.bl → b ∉ gk.bl := fun b hb => h.hd p k gp gk _ _ hne hgp hgk hs hk (by simp) (by simp) b hb
  have dpm : ∀ b, b ∈ gp.bl → b ∉ gm.bl := fun b hb => h.hd p m gp gm _ _ hnm hgp hgm hs hm (by simp) (by simp) b hb
  have hgl : p < gs.length := by rw [h.hl]; exact hpo
  have sv : SameV p gs (gs.set p g') := by
    refine ⟨fun j z hj hz => ?_, fun z hz => ⟨g', by simp [hgl], ?_, ?_⟩⟩
    · rw [List.getElem?_set, if_neg (fun e => hj e.symm)]; exact hz
    · rw [hgp] at hz; cases hz; rfl
    · rw [hgp] at hz; cases hz; rfl
  have hnd12 := List.nodup_append.1 hnd
  have nf : (f1.flatten ++ f2.flatten).Nodup := by
    have : ((i1 ++ i2).map fun i => bs.getD i []).flatten.Nodup := nodup_sel (by rw [b7] at b8; exact (List.nodup_append.1 b8).2.1) hnd hidx
    rw [List.map_append, List.flatten_append] at this
    exact this
  have nf' := List.nodup_append.1 nf
  refine ⟨gs.set p g', h.absorb2 hgp hs trivial hgk hk trivial hne hgm hm trivial hnm g' _ (AV.noRow p) rfl (fun _ _ _ => rfl) (Nat.le_refl _) ?_ (fun kp hv => hv.noRow kp sv) ?_⟩
  · intro b hb
    rcases List.mem_append.1 hb with hb | hb
    · exact ⟨.inl hb, (h.hn _ _ _ hgp hs (by simp) b hb).2⟩
    · rcases hcs b hb with h3 | h3
      · exact ⟨.inr (.inl h3), (h.hn _ _ _ hgk hk (by simp) b h3).2⟩
      · exact ⟨.inr (.inr (.inl h3)), (h.hn _ _ _ hgm hm (by simp) b h3).2⟩
  · intro kp
    refine ⟨vs, cs, gp.bl, a1, by simp [a2'], by simp [cs, f1, f2], rfl, fun j u hj => ?_, a4, rfl, ?_⟩
    · have hjl := (List.getElem?_eq_some_iff.1 hj).1
      rcases Nat.lt_trichotomy j i1.length with hlt | heq | hgt
      · have q := row j u _ hj (at1 j hlt)
        have g1 : (i1.map (fun i => xss.getD i []) ++ ys :: i2.map fun i => xss.getD i []).getD j [] = xss.getD (i1.getD j 0) [] := by
          rw [List.getD_eq_getElem?_getD, List.getElem?_append_left (by simpa using hlt), List.getElem?_map, List.getElem?_eq_getElem hlt, List.getD_eq_getElem?_getD (l := i1), List.getElem?_eq_getElem hlt]; rfl
        have g2 : cs.getD j [] = bs.getD (i1.getD j 0) [] := by
          show (f1 ++ gm.bl :: f2).getD j [] = _
          rw [List.getD_eq_getElem?_getD, List.getElem?_append_left (by simpa [f1] using hlt), List.getElem?_map, List.getElem?_eq_getElem hlt, List.getD_eq_getElem?_getD (l := i1), List.getElem?_eq_getElem hlt]; rfl
        rw [g1, g2]
        exact b5 _ u q
      · subst heq
        have q := rowm _ u hj at2
        subst q
        have g1 : (i1.map (fun i => xss.getD i []) ++ ys :: i2.map fun i => xss.getD i []).getD i1.length [] = ys := by
          rw [List.getD_eq_getElem?_getD, List.getElem?_append_right (by simp)]; simp
        have g2 : cs.getD i1.length [] = gm.bl := by
          show (f1 ++ gm.bl :: f2).getD i1.length [] = _
          rw [List.getD_eq_getElem?_getD, List.getElem?_append_right (by simp [f1])]; simp [f1]
        rw [g1, g2]
        exact ⟨c1, c2, c3.list⟩
      · obtain ⟨t, rfl⟩ : ∃ t, j = i1.length + 1 + t := ⟨j - (i1.length + 1), by omega⟩
        have htl : t < i2.length := by omega
        have q := row _ u _ hj (at3 t htl)
        have g1 : (i1.map (fun i => xss.getD i []) ++ ys :: i2.map fun i => xss.getD i []).getD (i1.length + 1 + t) [] = xss.getD (i2.getD t 0) [] := by
          rw [List.getD_eq_getElem?_getD, List.getElem?_append_right (by simp; omega)]
          simp only [List.length_map]
          rw [show i1.length + 1 + t - i1.length = t + 1 by omega, List.getElem?_cons_succ, List.getElem?_map, List.getElem?_eq_getElem htl, List.getD_eq_getElem?_getD (l := i2), List.getElem?_eq_getElem htl]; rfl
        have g2 : cs.getD (i1.length + 1 + t) [] = bs.getD (i2.getD t 0) [] := by
          show (f1 ++ gm.bl :: f2).getD (i1.length + 1 + t) [] = _
          rw [List.getD_eq_getElem?_getD, List.getElem?_append_right (by simp [f1]; omega)]
          simp only [f1, f2, List.length_map]
          rw [show i1.length + 1 + t - i1.length = t + 1 by omega, List.getElem?_cons_succ, List.getElem?_map, List.getElem?_eq_getElem htl, List.getD_eq_getElem?_getD (l := i2), List.getElem?_eq_getElem htl]; rfl
        rw [g1, g2]
        exact b5 _ u q
    · show (gp.bl ++ cs.flatten).Nodup
      rw [ecs, List.nodup_append]
      refine ⟨a4.nodup, nodup_append3 nf'.1 c3.nodup nf'.2.1 (fun x hx hx2 => dkm x (h1 x hx) hx2) (fun x hx hx2 => nf'.2.2 x hx x hx2 rfl) (fun x hx hx2 => dkm x (h2 x hx2) hx), ?_⟩
      intro a ha b hb e
      subst e
      rw [← ecs] at hb
      rcases hcs a hb with h3 | h3
      · exact dpk a ha h3
      · exact dpm a ha h3

/-- A state may be seen as another one. -/
def Turns (env : Env) (os : List AO) (env' : Env) (os' : List AO) : Prop := ∀ base w gs tm, Rel base w gs env os tm → ∃ gs', Rel base w gs' env' os' tm
theorem Turns.refl {env : Env} {os : List AO} : Turns env os env os := fun _ _ gs _ h => ⟨gs, h⟩
theorem Turns.gather {env : Env} {os : List AO} {p k m : Nat} {e e2 e3 e4 : TypeId} {xss : List (List Int)} {ys : List Int} {i1 i2 : List Nat}
    (hs : os[p]? = some (.slr e (i1.map (AV.orow k) ++ .own m :: i2.map (AV.orow k)))) (hk : os[k]? = some (.sls e3 e2 xss)) (hm : os[m]? = some (.sli e4 ys)) (he : e4 = e2) (hnd : (i1 ++ i2).Nodup) :
    Turns env os (env.mp (AV.noRow p)) ((((os.map (AO.via (AV.noRow p) p)).set p (.sls e e2 (i1.map (fun i => xss.getD i []) ++ ys :: i2.map fun i => xss.getD i []))).set k .dead).set m .dead) := fun _ _ _ _ h => h.gather hs hk hm he hnd
theorem Turns.merge {env : Env} {os : List AO} {p k : Nat} {e e2 e3 : TypeId} {xss : List (List Int)} {idx : List Nat} (hs : os[p]? = some (.slr e (idx.map (AV.orow k)))) (hk : os[k]? = some (.sls e3 e2 xss)) (hnd : idx.Nodup) :
    Turns env os (env.mp (AV.noRow p)) (((os.map (AO.via (AV.noRow p) p)).set p (.sls e e2 (idx.map fun i => xss.getD i []))).set k .dead) := fun _ _ _ _ h => h.merge hs hk hnd
end Go.Proofs.Ytpllbdjobmgikaa
