/-
  Parts of the proof, one behind the other: contracts of functions and plain laws. No condition.
-/
import Derived.Test.YtbalbiliejjnoaaPt4BranchDeterm
/-
  The search in depth, walked. Condition: a forest of at most 40 vertices.
-/
namespace Go.Proofs.Ytbalbiliejjnoaa
open Go Go.RowKit
attribute [local irreducible] AWp AOps ResIs Ret1 QOp LOp COp AFnV AFn Imms LeE LeO
set_option maxHeartbeats 1000000
set_option linter.unusedSimpArgs false
set_option linter.unusedVariables false

def stV (p r f g : Int) : Value := if okS p r f g = true then .tuple #[.int .i64 (p * f), .int .i64 (r * f - p * g)] else .tuple #[.int .i64 0, .int .i64 0]
def stS (s : WS) (p r f g : Int) : WS := if okS p r f g = true then s else s.big
theorem okS_iff (p r f g : Int) : okS p r f g = (tok r f && tok p g && tok p f && decide (-1000000000000 ≤ tmV r f - tmV p g ∧ tmV r f - tmV p g ≤ 1000000000000)) := by
  unfold okS
  cases h1 : tok r f
  · rfl
  · cases h2 : tok p g
    · rfl
    · have e1 : tmV r f = r * f := by unfold tmV; rw [if_pos h1]
      have e2 : tmV p g = p * g := by unfold tmV; rw [if_pos h2]
      rw [e1, e2]
theorem step_c (W : List Int) (N : List (List Int)) (s : WS) (p r f g : Int) (hp : inM p) (hr : inM r) (hf : inM f) (hg : inM g) :
    AFnB Try.prog 73 83 2 4 W N [.int .i64 p, .int .i64 r, .int .i64 f, .int .i64 g] s (stS s p r f g) (stV p r f g) := by
  have c1 := times_c r f hr hf
  have c2 := times_c p g hp hg
  have c3 := times_c p f hp hf
  have b1 := tmV_in r f
  have b2 := tmV_in p g
  have cv := isValue_c (tmV r f - tmV p g)
  have hok := okS_iff p r f g
  unfold inM at b1 b2
  have e1 : tok r f = true → tmV r f = r * f := fun h => by unfold tmV; rw [if_pos h]
  have e2 : tok p g = true → tmV p g = p * g := fun h => by unfold tmV; rw [if_pos h]
  have e3 : tok p f = true → tmV p f = p * f := fun h => by unfold tmV; rw [if_pos h]
  (refine AFnB.start Try.func73 Try.ntmps73 rfl (by kernel_rfl) fun K vW vN => ?_; simp only [wkL, Env.start, enumF, List.map_cons, List.map_nil, List.length_cons, List.length_nil, Nat.reduceAdd, Nat.reduceSub, Nat.zero_add, List.cons_append, List.nil_append])
  cases h1 : tok r f with
  | false =>
    rw [h1] at c1 hok
    have hk : okS p r f g = false := by rw [hok]; rfl
    have es : stS s p r f g = s.big := by unfold stS; rw [hk]; rfl
    have ev : stV p r f g = .tuple #[.int .i64 0, .int .i64 0] := by unfold stV; rw [hk]; rfl
    rw [es, ev]
    repeat' (first
  | (apply AOps.nil; try simp only [List.nil_append, List.cons_append, List.set_cons_zero, List.set_cons_succ, List.length_cons, List.length_nil, Nat.reduceAdd, AV.sh, AV.sh1, AV.sh0, AO.sh, List.map_cons, List.map_nil, Nat.zero_add, Nat.add_zero, setAll])
  | ((apply AOps.splitP; exact rfl; exact rfl) <;> intro h)
  | ((apply AOps.splitN; exact rfl; exact rfl) <;> intro h)
  | (apply w_move; exact rfl; exact rfl)
  | (apply w_assign; exact rfl; exact rfl)
  | apply AWp.seq
  | apply AWp.region
  | ((apply AWp.condP; exact rfl) <;> intro h)
  | ((apply AWp.condN; exact rfl) <;> intro h)
  | (apply AWp.condT; exact rfl)
  | (apply AWp.condF; exact rfl)
  | ((apply AWp.condB; exact rfl) <;> intro h)
  | apply AWp.block
  | apply AWp.ret
  | apply AWp.exit
  | apply AWp.skip
  | (apply AWp.regionQ; kernel_rfl; kernel_rfl)
  | (apply if_pos'; exact rfl)
  | (apply if_neg'; decide)
  | (apply w_skip; exact rfl)
  | (apply w_pickT; exact rfl; exact rfl; exact rfl)
  | (apply w_pickF; exact rfl; exact rfl; exact rfl)
  | (apply w_len; exact rfl; exact rfl; first | exact .ints _ | exact .intss _ | exact .sli rfl | exact .sls rfl | exact .slr rfl | exact .orow rfl | exact .nil)
  | ((first | apply w_nilck | apply w_convu | apply w_convi | apply w_not | apply w_neg | apply w_conv | apply w_build0 | apply w_bs1 | apply w_boxa); iterate 2 exact rfl)
  | ((first | apply w_shr1 | apply w_lss | apply w_leq | apply w_gtr | apply w_geq | apply w_eql | apply w_neq | apply w_add | apply w_sub | apply w_mul | apply w_idx | apply w_ld | apply w_fld | apply w_fa | apply w_extv | apply w_min | apply w_max | apply w_slhi | apply w_sllo | apply w_bs2); iterate 3 exact rfl)
  | (apply w_call (c1); exact rfl; exact rfl; focus ((repeat (first | exact im_nil | refine im_cons rfl (.val _) ?_ | refine im_cons rfl (.ints _) ?_ | refine im_cons rfl (.intss _) ?_ | refine im_cons rfl (.sli rfl) ?_ | refine im_cons rfl (.sls rfl) ?_ | refine im_cons rfl (.orow rfl) ?_ | refine im_cons rfl (.osub rfl (by simp; omega)) ?_ | refine im_cons rfl (.nil) ?_ | refine im_cons rfl (.nils) ?_ | refine im_cons rfl (im_agg2 (.val _) (.ints _)) ?_ | refine im_cons rfl (im_agg2 (.val _) (.sli rfl)) ?_ | refine im_cons rfl (im_agg2 (.val _) (.nil)) ?_ | refine im_cons rfl (im_agg2 (.ints _) (.intss _)) ?_ | refine im_cons rfl (im_agg2 (.ints _) (.sls rfl)) ?_ | refine im_cons rfl (im_agg2 (.sli rfl) (.intss _)) ?_ | refine im_cons rfl (im_agg2 (.sli rfl) (.sls rfl)) ?_ | refine im_cons rfl (im_agg1 (.ints _)) ?_ | refine im_cons rfl (im_agg1 (.sli rfl)) ?_ | refine im_cons rfl (im_agg1 (.intss _)) ?_ | refine im_cons rfl (im_agg1 (.sls rfl)) ?_ | refine im_cons rfl (im_agg1 (.nil)) ?_ | refine im_cons rfl (im_agg1 (.nils)) ?_)); done))
  | (apply w_call (c2); exact rfl; exact rfl; focus ((repeat (first | exact im_nil | refine im_cons rfl (.val _) ?_ | refine im_cons rfl (.ints _) ?_ | refine im_cons rfl (.intss _) ?_ | refine im_cons rfl (.sli rfl) ?_ | refine im_cons rfl (.sls rfl) ?_ | refine im_cons rfl (.orow rfl) ?_ | refine im_cons rfl (.osub rfl (by simp; omega)) ?_ | refine im_cons rfl (.nil) ?_ | refine im_cons rfl (.nils) ?_ | refine im_cons rfl (im_agg2 (.val _) (.ints _)) ?_ | refine im_cons rfl (im_agg2 (.val _) (.sli rfl)) ?_ | refine im_cons rfl (im_agg2 (.val _) (.nil)) ?_ | refine im_cons rfl (im_agg2 (.ints _) (.intss _)) ?_ | refine im_cons rfl (im_agg2 (.ints _) (.sls rfl)) ?_ | refine im_cons rfl (im_agg2 (.sli rfl) (.intss _)) ?_ | refine im_cons rfl (im_agg2 (.sli rfl) (.sls rfl)) ?_ | refine im_cons rfl (im_agg1 (.ints _)) ?_ | refine im_cons rfl (im_agg1 (.sli rfl)) ?_ | refine im_cons rfl (im_agg1 (.intss _)) ?_ | refine im_cons rfl (im_agg1 (.sls rfl)) ?_ | refine im_cons rfl (im_agg1 (.nil)) ?_ | refine im_cons rfl (im_agg1 (.nils)) ?_)); done))
  | (apply w_call (c3); exact rfl; exact rfl; focus ((repeat (first | exact im_nil | refine im_cons rfl (.val _) ?_ | refine im_cons rfl (.ints _) ?_ | refine im_cons rfl (.intss _) ?_ | refine im_cons rfl (.sli rfl) ?_ | refine im_cons rfl (.sls rfl) ?_ | refine im_cons rfl (.orow rfl) ?_ | refine im_cons rfl (.osub rfl (by simp; omega)) ?_ | refine im_cons rfl (.nil) ?_ | refine im_cons rfl (.nils) ?_ | refine im_cons rfl (im_agg2 (.val _) (.ints _)) ?_ | refine im_cons rfl (im_agg2 (.val _) (.sli rfl)) ?_ | refine im_cons rfl (im_agg2 (.val _) (.nil)) ?_ | refine im_cons rfl (im_agg2 (.ints _) (.intss _)) ?_ | refine im_cons rfl (im_agg2 (.ints _) (.sls rfl)) ?_ | refine im_cons rfl (im_agg2 (.sli rfl) (.intss _)) ?_ | refine im_cons rfl (im_agg2 (.sli rfl) (.sls rfl)) ?_ | refine im_cons rfl (im_agg1 (.ints _)) ?_ | refine im_cons rfl (im_agg1 (.sli rfl)) ?_ | refine im_cons rfl (im_agg1 (.intss _)) ?_ | refine im_cons rfl (im_agg1 (.sls rfl)) ?_ | refine im_cons rfl (im_agg1 (.nil)) ?_ | refine im_cons rfl (im_agg1 (.nils)) ?_)); done))
  | (apply w_call (cv); exact rfl; exact rfl; focus ((repeat (first | exact im_nil | refine im_cons rfl (.val _) ?_ | refine im_cons rfl (.ints _) ?_ | refine im_cons rfl (.intss _) ?_ | refine im_cons rfl (.sli rfl) ?_ | refine im_cons rfl (.sls rfl) ?_ | refine im_cons rfl (.orow rfl) ?_ | refine im_cons rfl (.osub rfl (by simp; omega)) ?_ | refine im_cons rfl (.nil) ?_ | refine im_cons rfl (.nils) ?_ | refine im_cons rfl (im_agg2 (.val _) (.ints _)) ?_ | refine im_cons rfl (im_agg2 (.val _) (.sli rfl)) ?_ | refine im_cons rfl (im_agg2 (.val _) (.nil)) ?_ | refine im_cons rfl (im_agg2 (.ints _) (.intss _)) ?_ | refine im_cons rfl (im_agg2 (.ints _) (.sls rfl)) ?_ | refine im_cons rfl (im_agg2 (.sli rfl) (.intss _)) ?_ | refine im_cons rfl (im_agg2 (.sli rfl) (.sls rfl)) ?_ | refine im_cons rfl (im_agg1 (.ints _)) ?_ | refine im_cons rfl (im_agg1 (.sli rfl)) ?_ | refine im_cons rfl (im_agg1 (.intss _)) ?_ | refine im_cons rfl (im_agg1 (.sls rfl)) ?_ | refine im_cons rfl (im_agg1 (.nil)) ?_ | refine im_cons rfl (im_agg1 (.nils)) ?_)); done))
  | omega
  | ((first | apply w_eqlb | apply w_neqb | apply w_idxs | apply w_lds | apply w_ext); iterate 3 exact rfl)
  | (apply w_rem; exact rfl; exact rfl; exact rfl; (focus (omega; done)); (focus (omega; done)))
  | (apply w_quo; exact rfl; exact rfl; exact rfl; (focus (omega; done)); (focus (omega; done)))
  | (apply w_remT; exact rfl; exact rfl; exact rfl)
  | (apply w_quoT; exact rfl; exact rfl; exact rfl)
  | (apply w_idxo; exact rfl; exact rfl; (first | exact .sli rfl | exact .sls rfl | exact .slr rfl); exact rfl)
  | ((first | apply w_idxr | apply w_ldr); iterate 4 exact rfl)
  | (apply w_ldo; iterate 4 exact rfl)
  | (apply w_ldls; iterate 4 exact rfl)
  | (apply w_ldrp; iterate 4 exact rfl)
  | (apply w_ldb; iterate 5 exact rfl)
  | (apply w_ldst; iterate 5 exact rfl)
  | ((first | apply w_sllh | apply w_stbi); iterate 4 exact rfl)
  | ((first | apply w_oslo | apply w_oshi | apply w_stbii); iterate 4 exact rfl)
  | (apply w_build1; exact rfl; exact rfl; (first | exact one_val rfl rfl | exact one_ints | exact one_intss | exact one_own rfl True.intro))
  | (apply w_build2; exact rfl; exact rfl; exact rfl; (first | exact one_val rfl rfl | exact one_ints | exact one_intss | exact one_own rfl True.intro); (first | exact one_val rfl rfl | exact one_ints | exact one_intss | exact one_own rfl True.intro))
  | (apply w_bs0; iterate 1 exact rfl)
  | (apply w_appn; exact rfl; exact rfl; (first | exact .ints _ | exact .sli rfl | exact .orow rfl | exact .nil | exact .osub rfl (by simp; omega)); exact rfl)
  | (apply w_alst; iterate 2 exact rfl)
  | (apply w_alone; iterate 3 exact rfl)
  | (apply w_mkr; exact rfl; exact rfl; rotate_left 3; exact rfl; rotate_left 1)
  | (apply w_sti; exact rfl; exact rfl; rotate_left 1; exact rfl; rotate_left 2)
  | (apply w_stst; iterate 5 exact rfl)
  | (apply w_stbv; iterate 6 exact rfl)
  | (apply w_stbo; exact rfl; exact rfl; exact rfl; exact rfl; exact rfl; exact True.intro)
  | ((apply AOps.splitB; exact rfl; exact rfl) <;> intro h)
  | apply AllOf.nil
  | (apply AllOf.cons; exact rfl)
  | (apply AAny.take; exact rfl; exact rfl; kernel_rfl; kernel_rfl)
  | (apply AAny.all; exact rfl)
  | (apply AAny.done; exact rfl)
  | (apply inI_of <;> omega)
  | omega
  | (simp <;> omega))
    all_goals first | exact ⟨.intint Try.results73 rfl rfl rfl rfl, [], rfl⟩ | (exfalso; simp_all; done)
  | true =>
    rw [h1] at c1 hok
    cases h2 : tok p g with
    | false =>
      rw [h2] at c2 hok
      have hk : okS p r f g = false := by rw [hok]; rfl
      have es : stS s p r f g = s.big := by unfold stS; rw [hk]; rfl
      have ev : stV p r f g = .tuple #[.int .i64 0, .int .i64 0] := by unfold stV; rw [hk]; rfl
      rw [es, ev]
      repeat' (first
  | (apply AOps.nil; try simp only [List.nil_append, List.cons_append, List.set_cons_zero, List.set_cons_succ, List.length_cons, List.length_nil, Nat.reduceAdd, AV.sh, AV.sh1, AV.sh0, AO.sh, List.map_cons, List.map_nil, Nat.zero_add, Nat.add_zero, setAll])
  | ((apply AOps.splitP; exact rfl; exact rfl) <;> intro h)
  | ((apply AOps.splitN; exact rfl; exact rfl) <;> intro h)
  | (apply w_move; exact rfl; exact rfl)
  | (apply w_assign; exact rfl; exact rfl)
  | apply AWp.seq
  | apply AWp.region
  | ((apply AWp.condP; exact rfl) <;> intro h)
  | ((apply AWp.condN; exact rfl) <;> intro h)
  | (apply AWp.condT; exact rfl)
  | (apply AWp.condF; exact rfl)
  | ((apply AWp.condB; exact rfl) <;> intro h)
  | apply AWp.block
  | apply AWp.ret
  | apply AWp.exit
  | apply AWp.skip
  | (apply AWp.regionQ; kernel_rfl; kernel_rfl)
  | (apply if_pos'; exact rfl)
  | (apply if_neg'; decide)
  | (apply w_skip; exact rfl)
  | (apply w_pickT; exact rfl; exact rfl; exact rfl)
  | (apply w_pickF; exact rfl; exact rfl; exact rfl)
  | (apply w_len; exact rfl; exact rfl; first | exact .ints _ | exact .intss _ | exact .sli rfl | exact .sls rfl | exact .slr rfl | exact .orow rfl | exact .nil)
  | ((first | apply w_nilck | apply w_convu | apply w_convi | apply w_not | apply w_neg | apply w_conv | apply w_build0 | apply w_bs1 | apply w_boxa); iterate 2 exact rfl)
  | ((first | apply w_shr1 | apply w_lss | apply w_leq | apply w_gtr | apply w_geq | apply w_eql | apply w_neq | apply w_add | apply w_sub | apply w_mul | apply w_idx | apply w_ld | apply w_fld | apply w_fa | apply w_extv | apply w_min | apply w_max | apply w_slhi | apply w_sllo | apply w_bs2); iterate 3 exact rfl)
  | (apply w_call (c1); exact rfl; exact rfl; focus ((repeat (first | exact im_nil | refine im_cons rfl (.val _) ?_ | refine im_cons rfl (.ints _) ?_ | refine im_cons rfl (.intss _) ?_ | refine im_cons rfl (.sli rfl) ?_ | refine im_cons rfl (.sls rfl) ?_ | refine im_cons rfl (.orow rfl) ?_ | refine im_cons rfl (.osub rfl (by simp; omega)) ?_ | refine im_cons rfl (.nil) ?_ | refine im_cons rfl (.nils) ?_ | refine im_cons rfl (im_agg2 (.val _) (.ints _)) ?_ | refine im_cons rfl (im_agg2 (.val _) (.sli rfl)) ?_ | refine im_cons rfl (im_agg2 (.val _) (.nil)) ?_ | refine im_cons rfl (im_agg2 (.ints _) (.intss _)) ?_ | refine im_cons rfl (im_agg2 (.ints _) (.sls rfl)) ?_ | refine im_cons rfl (im_agg2 (.sli rfl) (.intss _)) ?_ | refine im_cons rfl (im_agg2 (.sli rfl) (.sls rfl)) ?_ | refine im_cons rfl (im_agg1 (.ints _)) ?_ | refine im_cons rfl (im_agg1 (.sli rfl)) ?_ | refine im_cons rfl (im_agg1 (.intss _)) ?_ | refine im_cons rfl (im_agg1 (.sls rfl)) ?_ | refine im_cons rfl (im_agg1 (.nil)) ?_ | refine im_cons rfl (im_agg1 (.nils)) ?_)); done))
  | (apply w_call (c2); exact rfl; exact rfl; focus ((repeat (first | exact im_nil | refine im_cons rfl (.val _) ?_ | refine im_cons rfl (.ints _) ?_ | refine im_cons rfl (.intss _) ?_ | refine im_cons rfl (.sli rfl) ?_ | refine im_cons rfl (.sls rfl) ?_ | refine im_cons rfl (.orow rfl) ?_ | refine im_cons rfl (.osub rfl (by simp; omega)) ?_ | refine im_cons rfl (.nil) ?_ | refine im_cons rfl (.nils) ?_ | refine im_cons rfl (im_agg2 (.val _) (.ints _)) ?_ | refine im_cons rfl (im_agg2 (.val _) (.sli rfl)) ?_ | refine im_cons rfl (im_agg2 (.val _) (.nil)) ?_ | refine im_cons rfl (im_agg2 (.ints _) (.intss _)) ?_ | refine im_cons rfl (im_agg2 (.ints _) (.sls rfl)) ?_ | refine im_cons rfl (im_agg2 (.sli rfl) (.intss _)) ?_ | refine im_cons rfl (im_agg2 (.sli rfl) (.sls rfl)) ?_ | refine im_cons rfl (im_agg1 (.ints _)) ?_ | refine im_cons rfl (im_agg1 (.sli rfl)) ?_ | refine im_cons rfl (im_agg1 (.intss _)) ?_ | refine im_cons rfl (im_agg1 (.sls rfl)) ?_ | refine im_cons rfl (im_agg1 (.nil)) ?_ | refine im_cons rfl (im_agg1 (.nils)) ?_)); done))
  | (apply w_call (c3); exact rfl; exact rfl; focus ((repeat (first | exact im_nil | refine im_cons rfl (.val _) ?_ | refine im_cons rfl (.ints _) ?_ | refine im_cons rfl (.intss _) ?_ | refine im_cons rfl (.sli rfl) ?_ | refine im_cons rfl (.sls rfl) ?_ | refine im_cons rfl (.orow rfl) ?_ | refine im_cons rfl (.osub rfl (by simp; omega)) ?_ | refine im_cons rfl (.nil) ?_ | refine im_cons rfl (.nils) ?_ | refine im_cons rfl (im_agg2 (.val _) (.ints _)) ?_ | refine im_cons rfl (im_agg2 (.val _) (.sli rfl)) ?_ | refine im_cons rfl (im_agg2 (.val _) (.nil)) ?_ | refine im_cons rfl (im_agg2 (.ints _) (.intss _)) ?_ | refine im_cons rfl (im_agg2 (.ints _) (.sls rfl)) ?_ | refine im_cons rfl (im_agg2 (.sli rfl) (.intss _)) ?_ | refine im_cons rfl (im_agg2 (.sli rfl) (.sls rfl)) ?_ | refine im_cons rfl (im_agg1 (.ints _)) ?_ | refine im_cons rfl (im_agg1 (.sli rfl)) ?_ | refine im_cons rfl (im_agg1 (.intss _)) ?_ | refine im_cons rfl (im_agg1 (.sls rfl)) ?_ | refine im_cons rfl (im_agg1 (.nil)) ?_ | refine im_cons rfl (im_agg1 (.nils)) ?_)); done))
  | (apply w_call (cv); exact rfl; exact rfl; focus ((repeat (first | exact im_nil | refine im_cons rfl (.val _) ?_ | refine im_cons rfl (.ints _) ?_ | refine im_cons rfl (.intss _) ?_ | refine im_cons rfl (.sli rfl) ?_ | refine im_cons rfl (.sls rfl) ?_ | refine im_cons rfl (.orow rfl) ?_ | refine im_cons rfl (.osub rfl (by simp; omega)) ?_ | refine im_cons rfl (.nil) ?_ | refine im_cons rfl (.nils) ?_ | refine im_cons rfl (im_agg2 (.val _) (.ints _)) ?_ | refine im_cons rfl (im_agg2 (.val _) (.sli rfl)) ?_ | refine im_cons rfl (im_agg2 (.val _) (.nil)) ?_ | refine im_cons rfl (im_agg2 (.ints _) (.intss _)) ?_ | refine im_cons rfl (im_agg2 (.ints _) (.sls rfl)) ?_ | refine im_cons rfl (im_agg2 (.sli rfl) (.intss _)) ?_ | refine im_cons rfl (im_agg2 (.sli rfl) (.sls rfl)) ?_ | refine im_cons rfl (im_agg1 (.ints _)) ?_ | refine im_cons rfl (im_agg1 (.sli rfl)) ?_ | refine im_cons rfl (im_agg1 (.intss _)) ?_ | refine im_cons rfl (im_agg1 (.sls rfl)) ?_ | refine im_cons rfl (im_agg1 (.nil)) ?_ | refine im_cons rfl (im_agg1 (.nils)) ?_)); done))
  | omega
  | ((first | apply w_eqlb | apply w_neqb | apply w_idxs | apply w_lds | apply w_ext); iterate 3 exact rfl)
  | (apply w_rem; exact rfl; exact rfl; exact rfl; (focus (omega; done)); (focus (omega; done)))
  | (apply w_quo; exact rfl; exact rfl; exact rfl; (focus (omega; done)); (focus (omega; done)))
  | (apply w_remT; exact rfl; exact rfl; exact rfl)
  | (apply w_quoT; exact rfl; exact rfl; exact rfl)
  | (apply w_idxo; exact rfl; exact rfl; (first | exact .sli rfl | exact .sls rfl | exact .slr rfl); exact rfl)
  | ((first | apply w_idxr | apply w_ldr); iterate 4 exact rfl)
  | (apply w_ldo; iterate 4 exact rfl)
  | (apply w_ldls; iterate 4 exact rfl)
  | (apply w_ldrp; iterate 4 exact rfl)
  | (apply w_ldb; iterate 5 exact rfl)
  | (apply w_ldst; iterate 5 exact rfl)
  | ((first | apply w_sllh | apply w_stbi); iterate 4 exact rfl)
  | ((first | apply w_oslo | apply w_oshi | apply w_stbii); iterate 4 exact rfl)
  | (apply w_build1; exact rfl; exact rfl; (first | exact one_val rfl rfl | exact one_ints | exact one_intss | exact one_own rfl True.intro))
  | (apply w_build2; exact rfl; exact rfl; exact rfl; (first | exact one_val rfl rfl | exact one_ints | exact one_intss | exact one_own rfl True.intro); (first | exact one_val rfl rfl | exact one_ints | exact one_intss | exact one_own rfl True.intro))
  | (apply w_bs0; iterate 1 exact rfl)
  | (apply w_appn; exact rfl; exact rfl; (first | exact .ints _ | exact .sli rfl | exact .orow rfl | exact .nil | exact .osub rfl (by simp; omega)); exact rfl)
  | (apply w_alst; iterate 2 exact rfl)
  | (apply w_alone; iterate 3 exact rfl)
  | (apply w_mkr; exact rfl; exact rfl; rotate_left 3; exact rfl; rotate_left 1)
  | (apply w_sti; exact rfl; exact rfl; rotate_left 1; exact rfl; rotate_left 2)
  | (apply w_stst; iterate 5 exact rfl)
  | (apply w_stbv; iterate 6 exact rfl)
  | (apply w_stbo; exact rfl; exact rfl; exact rfl; exact rfl; exact rfl; exact True.intro)
  | ((apply AOps.splitB; exact rfl; exact rfl) <;> intro h)
  | apply AllOf.nil
  | (apply AllOf.cons; exact rfl)
  | (apply AAny.take; exact rfl; exact rfl; kernel_rfl; kernel_rfl)
  | (apply AAny.all; exact rfl)
  | (apply AAny.done; exact rfl)
  | (apply inI_of <;> omega)
  | omega
  | (simp <;> omega))
      all_goals first | exact ⟨.intint Try.results73 rfl rfl rfl rfl, [], rfl⟩ | (exfalso; simp_all; done)
    | true =>
      rw [h2] at c2 hok
      cases h3 : tok p f with
      | false =>
        rw [h3] at c3 hok
        have hk : okS p r f g = false := by rw [hok]; rfl
        have es : stS s p r f g = s.big := by unfold stS; rw [hk]; rfl
        have ev : stV p r f g = .tuple #[.int .i64 0, .int .i64 0] := by unfold stV; rw [hk]; rfl
        rw [es, ev]
        repeat' (first
  | (apply AOps.nil; try simp only [List.nil_append, List.cons_append, List.set_cons_zero, List.set_cons_succ, List.length_cons, List.length_nil, Nat.reduceAdd, AV.sh, AV.sh1, AV.sh0, AO.sh, List.map_cons, List.map_nil, Nat.zero_add, Nat.add_zero, setAll])
  | ((apply AOps.splitP; exact rfl; exact rfl) <;> intro h)
  | ((apply AOps.splitN; exact rfl; exact rfl) <;> intro h)
  | (apply w_move; exact rfl; exact rfl)
  | (apply w_assign; exact rfl; exact rfl)
  | apply AWp.seq
  | apply AWp.region
  | ((apply AWp.condP; exact rfl) <;> intro h)
  | ((apply AWp.condN; exact rfl) <;> intro h)
  | (apply AWp.condT; exact rfl)
  | (apply AWp.condF; exact rfl)
  | ((apply AWp.condB; exact rfl) <;> intro h)
  | apply AWp.block
  | apply AWp.ret
  | apply AWp.exit
  | apply AWp.skip
  | (apply AWp.regionQ; kernel_rfl; kernel_rfl)
  | (apply if_pos'; exact rfl)
  | (apply if_neg'; decide)
  | (apply w_skip; exact rfl)
  | (apply w_pickT; exact rfl; exact rfl; exact rfl)
  | (apply w_pickF; exact rfl; exact rfl; exact rfl)
  | (apply w_len; exact rfl; exact rfl; first | exact .ints _ | exact .intss _ | exact .sli rfl | exact .sls rfl | exact .slr rfl | exact .orow rfl | exact .nil)
  | ((first | apply w_nilck | apply w_convu | apply w_convi | apply w_not | apply w_neg | apply w_conv | apply w_build0 | apply w_bs1 | apply w_boxa); iterate 2 exact rfl)
  | ((first | apply w_shr1 | apply w_lss | apply w_leq | apply w_gtr | apply w_geq | apply w_eql | apply w_neq | apply w_add | apply w_sub | apply w_mul | apply w_idx | apply w_ld | apply w_fld | apply w_fa | apply w_extv | apply w_min | apply w_max | apply w_slhi | apply w_sllo | apply w_bs2); iterate 3 exact rfl)
  | (apply w_call (c1); exact rfl; exact rfl; focus ((repeat (first | exact im_nil | refine im_cons rfl (.val _) ?_ | refine im_cons rfl (.ints _) ?_ | refine im_cons rfl (.intss _) ?_ | refine im_cons rfl (.sli rfl) ?_ | refine im_cons rfl (.sls rfl) ?_ | refine im_cons rfl (.orow rfl) ?_ | refine im_cons rfl (.osub rfl (by simp; omega)) ?_ | refine im_cons rfl (.nil) ?_ | refine im_cons rfl (.nils) ?_ | refine im_cons rfl (im_agg2 (.val _) (.ints _)) ?_ | refine im_cons rfl (im_agg2 (.val _) (.sli rfl)) ?_ | refine im_cons rfl (im_agg2 (.val _) (.nil)) ?_ | refine im_cons rfl (im_agg2 (.ints _) (.intss _)) ?_ | refine im_cons rfl (im_agg2 (.ints _) (.sls rfl)) ?_ | refine im_cons rfl (im_agg2 (.sli rfl) (.intss _)) ?_ | refine im_cons rfl (im_agg2 (.sli rfl) (.sls rfl)) ?_ | refine im_cons rfl (im_agg1 (.ints _)) ?_ | refine im_cons rfl (im_agg1 (.sli rfl)) ?_ | refine im_cons rfl (im_agg1 (.intss _)) ?_ | refine im_cons rfl (im_agg1 (.sls rfl)) ?_ | refine im_cons rfl (im_agg1 (.nil)) ?_ | refine im_cons rfl (im_agg1 (.nils)) ?_)); done))
  | (apply w_call (c2); exact rfl; exact rfl; focus ((repeat (first | exact im_nil | refine im_cons rfl (.val _) ?_ | refine im_cons rfl (.ints _) ?_ | refine im_cons rfl (.intss _) ?_ | refine im_cons rfl (.sli rfl) ?_ | refine im_cons rfl (.sls rfl) ?_ | refine im_cons rfl (.orow rfl) ?_ | refine im_cons rfl (.osub rfl (by simp; omega)) ?_ | refine im_cons rfl (.nil) ?_ | refine im_cons rfl (.nils) ?_ | refine im_cons rfl (im_agg2 (.val _) (.ints _)) ?_ | refine im_cons rfl (im_agg2 (.val _) (.sli rfl)) ?_ | refine im_cons rfl (im_agg2 (.val _) (.nil)) ?_ | refine im_cons rfl (im_agg2 (.ints _) (.intss _)) ?_ | refine im_cons rfl (im_agg2 (.ints _) (.sls rfl)) ?_ | refine im_cons rfl (im_agg2 (.sli rfl) (.intss _)) ?_ | refine im_cons rfl (im_agg2 (.sli rfl) (.sls rfl)) ?_ | refine im_cons rfl (im_agg1 (.ints _)) ?_ | refine im_cons rfl (im_agg1 (.sli rfl)) ?_ | refine im_cons rfl (im_agg1 (.intss _)) ?_ | refine im_cons rfl (im_agg1 (.sls rfl)) ?_ | refine im_cons rfl (im_agg1 (.nil)) ?_ | refine im_cons rfl (im_agg1 (.nils)) ?_)); done))
  | (apply w_call (c3); exact rfl; exact rfl; focus ((repeat (first | exact im_nil | refine im_cons rfl (.val _) ?_ | refine im_cons rfl (.ints _) ?_ | refine im_cons rfl (.intss _) ?_ | refine im_cons rfl (.sli rfl) ?_ | refine im_cons rfl (.sls rfl) ?_ | refine im_cons rfl (.orow rfl) ?_ | refine im_cons rfl (.osub rfl (by simp; omega)) ?_ | refine im_cons rfl (.nil) ?_ | refine im_cons rfl (.nils) ?_ | refine im_cons rfl (im_agg2 (.val _) (.ints _)) ?_ | refine im_cons rfl (im_agg2 (.val _) (.sli rfl)) ?_ | refine im_cons rfl (im_agg2 (.val _) (.nil)) ?_ | refine im_cons rfl (im_agg2 (.ints _) (.intss _)) ?_ | refine im_cons rfl (im_agg2 (.ints _) (.sls rfl)) ?_ | refine im_cons rfl (im_agg2 (.sli rfl) (.intss _)) ?_ | refine im_cons rfl (im_agg2 (.sli rfl) (.sls rfl)) ?_ | refine im_cons rfl (im_agg1 (.ints _)) ?_ | refine im_cons rfl (im_agg1 (.sli rfl)) ?_ | refine im_cons rfl (im_agg1 (.intss _)) ?_ | refine im_cons rfl (im_agg1 (.sls rfl)) ?_ | refine im_cons rfl (im_agg1 (.nil)) ?_ | refine im_cons rfl (im_agg1 (.nils)) ?_)); done))
  | (apply w_call (cv); exact rfl; exact rfl; focus ((repeat (first | exact im_nil | refine im_cons rfl (.val _) ?_ | refine im_cons rfl (.ints _) ?_ | refine im_cons rfl (.intss _) ?_ | refine im_cons rfl (.sli rfl) ?_ | refine im_cons rfl (.sls rfl) ?_ | refine im_cons rfl (.orow rfl) ?_ | refine im_cons rfl (.osub rfl (by simp; omega)) ?_ | refine im_cons rfl (.nil) ?_ | refine im_cons rfl (.nils) ?_ | refine im_cons rfl (im_agg2 (.val _) (.ints _)) ?_ | refine im_cons rfl (im_agg2 (.val _) (.sli rfl)) ?_ | refine im_cons rfl (im_agg2 (.val _) (.nil)) ?_ | refine im_cons rfl (im_agg2 (.ints _) (.intss _)) ?_ | refine im_cons rfl (im_agg2 (.ints _) (.sls rfl)) ?_ | refine im_cons rfl (im_agg2 (.sli rfl) (.intss _)) ?_ | refine im_cons rfl (im_agg2 (.sli rfl) (.sls rfl)) ?_ | refine im_cons rfl (im_agg1 (.ints _)) ?_ | refine im_cons rfl (im_agg1 (.sli rfl)) ?_ | refine im_cons rfl (im_agg1 (.intss _)) ?_ | refine im_cons rfl (im_agg1 (.sls rfl)) ?_ | refine im_cons rfl (im_agg1 (.nil)) ?_ | refine im_cons rfl (im_agg1 (.nils)) ?_)); done))
  | omega
  | ((first | apply w_eqlb | apply w_neqb | apply w_idxs | apply w_lds | apply w_ext); iterate 3 exact rfl)
  | (apply w_rem; exact rfl; exact rfl; exact rfl; (focus (omega; done)); (focus (omega; done)))
  | (apply w_quo; exact rfl; exact rfl; exact rfl; (focus (omega; done)); (focus (omega; done)))
  | (apply w_remT; exact rfl; exact rfl; exact rfl)
  | (apply w_quoT; exact rfl; exact rfl; exact rfl)
  | (apply w_idxo; exact rfl; exact rfl; (first | exact .sli rfl | exact .sls rfl | exact .slr rfl); exact rfl)
  | ((first | apply w_idxr | apply w_ldr); iterate 4 exact rfl)
  | (apply w_ldo; iterate 4 exact rfl)
  | (apply w_ldls; iterate 4 exact rfl)
  | (apply w_ldrp; iterate 4 exact rfl)
  | (apply w_ldb; iterate 5 exact rfl)
  | (apply w_ldst; iterate 5 exact rfl)
  | ((first | apply w_sllh | apply w_stbi); iterate 4 exact rfl)
  | ((first | apply w_oslo | apply w_oshi | apply w_stbii); iterate 4 exact rfl)
  | (apply w_build1; exact rfl; exact rfl; (first | exact one_val rfl rfl | exact one_ints | exact one_intss | exact one_own rfl True.intro))
  | (apply w_build2; exact rfl; exact rfl; exact rfl; (first | exact one_val rfl rfl | exact one_ints | exact one_intss | exact one_own rfl True.intro); (first | exact one_val rfl rfl | exact one_ints | exact one_intss | exact one_own rfl True.intro))
  | (apply w_bs0; iterate 1 exact rfl)
  | (apply w_appn; exact rfl; exact rfl; (first | exact .ints _ | exact .sli rfl | exact .orow rfl | exact .nil | exact .osub rfl (by simp; omega)); exact rfl)
  | (apply w_alst; iterate 2 exact rfl)
  | (apply w_alone; iterate 3 exact rfl)
  | (apply w_mkr; exact rfl; exact rfl; rotate_left 3; exact rfl; rotate_left 1)
  | (apply w_sti; exact rfl; exact rfl; rotate_left 1; exact rfl; rotate_left 2)
  | (apply w_stst; iterate 5 exact rfl)
  | (apply w_stbv; iterate 6 exact rfl)
  | (apply w_stbo; exact rfl; exact rfl; exact rfl; exact rfl; exact rfl; exact True.intro)
  | ((apply AOps.splitB; exact rfl; exact rfl) <;> intro h)
  | apply AllOf.nil
  | (apply AllOf.cons; exact rfl)
  | (apply AAny.take; exact rfl; exact rfl; kernel_rfl; kernel_rfl)
  | (apply AAny.all; exact rfl)
  | (apply AAny.done; exact rfl)
  | (apply inI_of <;> omega)
  | omega
  | (simp <;> omega))
        all_goals first | exact ⟨.intint Try.results73 rfl rfl rfl rfl, [], rfl⟩ | (exfalso; simp_all; done)
      | true =>
        rw [h3] at c3 hok
        cases h4 : decide (-1000000000000 ≤ tmV r f - tmV p g ∧ tmV r f - tmV p g ≤ 1000000000000) with
        | false =>
          rw [h4] at cv hok
          have hk : okS p r f g = false := by rw [hok]; rfl
          have es : stS s p r f g = s.big := by unfold stS; rw [hk]; rfl
          have ev : stV p r f g = .tuple #[.int .i64 0, .int .i64 0] := by unfold stV; rw [hk]; rfl
          rw [es, ev]
          repeat' (first
  | (apply AOps.nil; try simp only [List.nil_append, List.cons_append, List.set_cons_zero, List.set_cons_succ, List.length_cons, List.length_nil, Nat.reduceAdd, AV.sh, AV.sh1, AV.sh0, AO.sh, List.map_cons, List.map_nil, Nat.zero_add, Nat.add_zero, setAll])
  | ((apply AOps.splitP; exact rfl; exact rfl) <;> intro h)
  | ((apply AOps.splitN; exact rfl; exact rfl) <;> intro h)
  | (apply w_move; exact rfl; exact rfl)
  | (apply w_assign; exact rfl; exact rfl)
  | apply AWp.seq
  | apply AWp.region
  | ((apply AWp.condP; exact rfl) <;> intro h)
  | ((apply AWp.condN; exact rfl) <;> intro h)
  | (apply AWp.condT; exact rfl)
  | (apply AWp.condF; exact rfl)
  | ((apply AWp.condB; exact rfl) <;> intro h)
  | apply AWp.block
  | apply AWp.ret
  | apply AWp.exit
  | apply AWp.skip
  | (apply AWp.regionQ; kernel_rfl; kernel_rfl)
  | (apply if_pos'; exact rfl)
  | (apply if_neg'; decide)
  | (apply w_skip; exact rfl)
  | (apply w_pickT; exact rfl; exact rfl; exact rfl)
  | (apply w_pickF; exact rfl; exact rfl; exact rfl)
  | (apply w_len; exact rfl; exact rfl; first | exact .ints _ | exact .intss _ | exact .sli rfl | exact .sls rfl | exact .slr rfl | exact .orow rfl | exact .nil)
  | ((first | apply w_nilck | apply w_convu | apply w_convi | apply w_not | apply w_neg | apply w_conv | apply w_build0 | apply w_bs1 | apply w_boxa); iterate 2 exact rfl)
  | ((first | apply w_shr1 | apply w_lss | apply w_leq | apply w_gtr | apply w_geq | apply w_eql | apply w_neq | apply w_add | apply w_sub | apply w_mul | apply w_idx | apply w_ld | apply w_fld | apply w_fa | apply w_extv | apply w_min | apply w_max | apply w_slhi | apply w_sllo | apply w_bs2); iterate 3 exact rfl)
  | (apply w_call (c1); exact rfl; exact rfl; focus ((repeat (first | exact im_nil | refine im_cons rfl (.val _) ?_ | refine im_cons rfl (.ints _) ?_ | refine im_cons rfl (.intss _) ?_ | refine im_cons rfl (.sli rfl) ?_ | refine im_cons rfl (.sls rfl) ?_ | refine im_cons rfl (.orow rfl) ?_ | refine im_cons rfl (.osub rfl (by simp; omega)) ?_ | refine im_cons rfl (.nil) ?_ | refine im_cons rfl (.nils) ?_ | refine im_cons rfl (im_agg2 (.val _) (.ints _)) ?_ | refine im_cons rfl (im_agg2 (.val _) (.sli rfl)) ?_ | refine im_cons rfl (im_agg2 (.val _) (.nil)) ?_ | refine im_cons rfl (im_agg2 (.ints _) (.intss _)) ?_ | refine im_cons rfl (im_agg2 (.ints _) (.sls rfl)) ?_ | refine im_cons rfl (im_agg2 (.sli rfl) (.intss _)) ?_ | refine im_cons rfl (im_agg2 (.sli rfl) (.sls rfl)) ?_ | refine im_cons rfl (im_agg1 (.ints _)) ?_ | refine im_cons rfl (im_agg1 (.sli rfl)) ?_ | refine im_cons rfl (im_agg1 (.intss _)) ?_ | refine im_cons rfl (im_agg1 (.sls rfl)) ?_ | refine im_cons rfl (im_agg1 (.nil)) ?_ | refine im_cons rfl (im_agg1 (.nils)) ?_)); done))
  | (apply w_call (c2); exact rfl; exact rfl; focus ((repeat (first | exact im_nil | refine im_cons rfl (.val _) ?_ | refine im_cons rfl (.ints _) ?_ | refine im_cons rfl (.intss _) ?_ | refine im_cons rfl (.sli rfl) ?_ | refine im_cons rfl (.sls rfl) ?_ | refine im_cons rfl (.orow rfl) ?_ | refine im_cons rfl (.osub rfl (by simp; omega)) ?_ | refine im_cons rfl (.nil) ?_ | refine im_cons rfl (.nils) ?_ | refine im_cons rfl (im_agg2 (.val _) (.ints _)) ?_ | refine im_cons rfl (im_agg2 (.val _) (.sli rfl)) ?_ | refine im_cons rfl (im_agg2 (.val _) (.nil)) ?_ | refine im_cons rfl (im_agg2 (.ints _) (.intss _)) ?_ | refine im_cons rfl (im_agg2 (.ints _) (.sls rfl)) ?_ | refine im_cons rfl (im_agg2 (.sli rfl) (.intss _)) ?_ | refine im_cons rfl (im_agg2 (.sli rfl) (.sls rfl)) ?_ | refine im_cons rfl (im_agg1 (.ints _)) ?_ | refine im_cons rfl (im_agg1 (.sli rfl)) ?_ | refine im_cons rfl (im_agg1 (.intss _)) ?_ | refine im_cons rfl (im_agg1 (.sls rfl)) ?_ | refine im_cons rfl (im_agg1 (.nil)) ?_ | refine im_cons rfl (im_agg1 (.nils)) ?_)); done))
  | (apply w_call (c3); exact rfl; exact rfl; focus ((repeat (first | exact im_nil | refine im_cons rfl (.val _) ?_ | refine im_cons rfl (.ints _) ?_ | refine im_cons rfl (.intss _) ?_ | refine im_cons rfl (.sli rfl) ?_ | refine im_cons rfl (.sls rfl) ?_ | refine im_cons rfl (.orow rfl) ?_ | refine im_cons rfl (.osub rfl (by simp; omega)) ?_ | refine im_cons rfl (.nil) ?_ | refine im_cons rfl (.nils) ?_ | refine im_cons rfl (im_agg2 (.val _) (.ints _)) ?_ | refine im_cons rfl (im_agg2 (.val _) (.sli rfl)) ?_ | refine im_cons rfl (im_agg2 (.val _) (.nil)) ?_ | refine im_cons rfl (im_agg2 (.ints _) (.intss _)) ?_ | refine im_cons rfl (im_agg2 (.ints _) (.sls rfl)) ?_ | refine im_cons rfl (im_agg2 (.sli rfl) (.intss _)) ?_ | refine im_cons rfl (im_agg2 (.sli rfl) (.sls rfl)) ?_ | refine im_cons rfl (im_agg1 (.ints _)) ?_ | refine im_cons rfl (im_agg1 (.sli rfl)) ?_ | refine im_cons rfl (im_agg1 (.intss _)) ?_ | refine im_cons rfl (im_agg1 (.sls rfl)) ?_ | refine im_cons rfl (im_agg1 (.nil)) ?_ | refine im_cons rfl (im_agg1 (.nils)) ?_)); done))
  | (apply w_call (cv); exact rfl; exact rfl; focus ((repeat (first | exact im_nil | refine im_cons rfl (.val _) ?_ | refine im_cons rfl (.ints _) ?_ | refine im_cons rfl (.intss _) ?_ | refine im_cons rfl (.sli rfl) ?_ | refine im_cons rfl (.sls rfl) ?_ | refine im_cons rfl (.orow rfl) ?_ | refine im_cons rfl (.osub rfl (by simp; omega)) ?_ | refine im_cons rfl (.nil) ?_ | refine im_cons rfl (.nils) ?_ | refine im_cons rfl (im_agg2 (.val _) (.ints _)) ?_ | refine im_cons rfl (im_agg2 (.val _) (.sli rfl)) ?_ | refine im_cons rfl (im_agg2 (.val _) (.nil)) ?_ | refine im_cons rfl (im_agg2 (.ints _) (.intss _)) ?_ | refine im_cons rfl (im_agg2 (.ints _) (.sls rfl)) ?_ | refine im_cons rfl (im_agg2 (.sli rfl) (.intss _)) ?_ | refine im_cons rfl (im_agg2 (.sli rfl) (.sls rfl)) ?_ | refine im_cons rfl (im_agg1 (.ints _)) ?_ | refine im_cons rfl (im_agg1 (.sli rfl)) ?_ | refine im_cons rfl (im_agg1 (.intss _)) ?_ | refine im_cons rfl (im_agg1 (.sls rfl)) ?_ | refine im_cons rfl (im_agg1 (.nil)) ?_ | refine im_cons rfl (im_agg1 (.nils)) ?_)); done))
  | omega
  | ((first | apply w_eqlb | apply w_neqb | apply w_idxs | apply w_lds | apply w_ext); iterate 3 exact rfl)
  | (apply w_rem; exact rfl; exact rfl; exact rfl; (focus (omega; done)); (focus (omega; done)))
  | (apply w_quo; exact rfl; exact rfl; exact rfl; (focus (omega; done)); (focus (omega; done)))
  | (apply w_remT; exact rfl; exact rfl; exact rfl)
  | (apply w_quoT; exact rfl; exact rfl; exact rfl)
  | (apply w_idxo; exact rfl; exact rfl; (first | exact .sli rfl | exact .sls rfl | exact .slr rfl); exact rfl)
  | ((first | apply w_idxr | apply w_ldr); iterate 4 exact rfl)
  | (apply w_ldo; iterate 4 exact rfl)
  | (apply w_ldls; iterate 4 exact rfl)
  | (apply w_ldrp; iterate 4 exact rfl)
  | (apply w_ldb; iterate 5 exact rfl)
  | (apply w_ldst; iterate 5 exact rfl)
  | ((first | apply w_sllh | apply w_stbi); iterate 4 exact rfl)
  | ((first | apply w_oslo | apply w_oshi | apply w_stbii); iterate 4 exact rfl)
  | (apply w_build1; exact rfl; exact rfl; (first | exact one_val rfl rfl | exact one_ints | exact one_intss | exact one_own rfl True.intro))
  | (apply w_build2; exact rfl; exact rfl; exact rfl; (first | exact one_val rfl rfl | exact one_ints | exact one_intss | exact one_own rfl True.intro); (first | exact one_val rfl rfl | exact one_ints | exact one_intss | exact one_own rfl True.intro))
  | (apply w_bs0; iterate 1 exact rfl)
  | (apply w_appn; exact rfl; exact rfl; (first | exact .ints _ | exact .sli rfl | exact .orow rfl | exact .nil | exact .osub rfl (by simp; omega)); exact rfl)
  | (apply w_alst; iterate 2 exact rfl)
  | (apply w_alone; iterate 3 exact rfl)
  | (apply w_mkr; exact rfl; exact rfl; rotate_left 3; exact rfl; rotate_left 1)
  | (apply w_sti; exact rfl; exact rfl; rotate_left 1; exact rfl; rotate_left 2)
  | (apply w_stst; iterate 5 exact rfl)
  | (apply w_stbv; iterate 6 exact rfl)
  | (apply w_stbo; exact rfl; exact rfl; exact rfl; exact rfl; exact rfl; exact True.intro)
  | ((apply AOps.splitB; exact rfl; exact rfl) <;> intro h)
  | apply AllOf.nil
  | (apply AllOf.cons; exact rfl)
  | (apply AAny.take; exact rfl; exact rfl; kernel_rfl; kernel_rfl)
  | (apply AAny.all; exact rfl)
  | (apply AAny.done; exact rfl)
  | (apply inI_of <;> omega)
  | omega
  | (simp <;> omega))
          all_goals first | exact ⟨.intint Try.results73 rfl rfl rfl rfl, [], rfl⟩ | (exfalso; simp_all; done)
        | true =>
          rw [h4] at cv hok
          have hk : okS p r f g = true := by rw [hok]; rfl
          have es : stS s p r f g = s := by unfold stS; rw [if_pos hk]
          have ev : stV p r f g = .tuple #[.int .i64 (tmV p f), .int .i64 (tmV r f - tmV p g)] := by unfold stV; rw [if_pos hk, e1 h1, e2 h2, e3 h3]
          rw [es, ev]
          repeat' (first
  | (apply AOps.nil; try simp only [List.nil_append, List.cons_append, List.set_cons_zero, List.set_cons_succ, List.length_cons, List.length_nil, Nat.reduceAdd, AV.sh, AV.sh1, AV.sh0, AO.sh, List.map_cons, List.map_nil, Nat.zero_add, Nat.add_zero, setAll])
  | ((apply AOps.splitP; exact rfl; exact rfl) <;> intro h)
  | ((apply AOps.splitN; exact rfl; exact rfl) <;> intro h)
  | (apply w_move; exact rfl; exact rfl)
  | (apply w_assign; exact rfl; exact rfl)
  | apply AWp.seq
  | apply AWp.region
  | ((apply AWp.condP; exact rfl) <;> intro h)
  | ((apply AWp.condN; exact rfl) <;> intro h)
  | (apply AWp.condT; exact rfl)
  | (apply AWp.condF; exact rfl)
  | ((apply AWp.condB; exact rfl) <;> intro h)
  | apply AWp.block
  | apply AWp.ret
  | apply AWp.exit
  | apply AWp.skip
  | (apply AWp.regionQ; kernel_rfl; kernel_rfl)
  | (apply if_pos'; exact rfl)
  | (apply if_neg'; decide)
  | (apply w_skip; exact rfl)
  | (apply w_pickT; exact rfl; exact rfl; exact rfl)
  | (apply w_pickF; exact rfl; exact rfl; exact rfl)
  | (apply w_len; exact rfl; exact rfl; first | exact .ints _ | exact .intss _ | exact .sli rfl | exact .sls rfl | exact .slr rfl | exact .orow rfl | exact .nil)
  | ((first | apply w_nilck | apply w_convu | apply w_convi | apply w_not | apply w_neg | apply w_conv | apply w_build0 | apply w_bs1 | apply w_boxa); iterate 2 exact rfl)
  | ((first | apply w_shr1 | apply w_lss | apply w_leq | apply w_gtr | apply w_geq | apply w_eql | apply w_neq | apply w_add | apply w_sub | apply w_mul | apply w_idx | apply w_ld | apply w_fld | apply w_fa | apply w_extv | apply w_min | apply w_max | apply w_slhi | apply w_sllo | apply w_bs2); iterate 3 exact rfl)
  | (apply w_call (c1); exact rfl; exact rfl; focus ((repeat (first | exact im_nil | refine im_cons rfl (.val _) ?_ | refine im_cons rfl (.ints _) ?_ | refine im_cons rfl (.intss _) ?_ | refine im_cons rfl (.sli rfl) ?_ | refine im_cons rfl (.sls rfl) ?_ | refine im_cons rfl (.orow rfl) ?_ | refine im_cons rfl (.osub rfl (by simp; omega)) ?_ | refine im_cons rfl (.nil) ?_ | refine im_cons rfl (.nils) ?_ | refine im_cons rfl (im_agg2 (.val _) (.ints _)) ?_ | refine im_cons rfl (im_agg2 (.val _) (.sli rfl)) ?_ | refine im_cons rfl (im_agg2 (.val _) (.nil)) ?_ | refine im_cons rfl (im_agg2 (.ints _) (.intss _)) ?_ | refine im_cons rfl (im_agg2 (.ints _) (.sls rfl)) ?_ | refine im_cons rfl (im_agg2 (.sli rfl) (.intss _)) ?_ | refine im_cons rfl (im_agg2 (.sli rfl) (.sls rfl)) ?_ | refine im_cons rfl (im_agg1 (.ints _)) ?_ | refine im_cons rfl (im_agg1 (.sli rfl)) ?_ | refine im_cons rfl (im_agg1 (.intss _)) ?_ | refine im_cons rfl (im_agg1 (.sls rfl)) ?_ | refine im_cons rfl (im_agg1 (.nil)) ?_ | refine im_cons rfl (im_agg1 (.nils)) ?_)); done))
  | (apply w_call (c2); exact rfl; exact rfl; focus ((repeat (first | exact im_nil | refine im_cons rfl (.val _) ?_ | refine im_cons rfl (.ints _) ?_ | refine im_cons rfl (.intss _) ?_ | refine im_cons rfl (.sli rfl) ?_ | refine im_cons rfl (.sls rfl) ?_ | refine im_cons rfl (.orow rfl) ?_ | refine im_cons rfl (.osub rfl (by simp; omega)) ?_ | refine im_cons rfl (.nil) ?_ | refine im_cons rfl (.nils) ?_ | refine im_cons rfl (im_agg2 (.val _) (.ints _)) ?_ | refine im_cons rfl (im_agg2 (.val _) (.sli rfl)) ?_ | refine im_cons rfl (im_agg2 (.val _) (.nil)) ?_ | refine im_cons rfl (im_agg2 (.ints _) (.intss _)) ?_ | refine im_cons rfl (im_agg2 (.ints _) (.sls rfl)) ?_ | refine im_cons rfl (im_agg2 (.sli rfl) (.intss _)) ?_ | refine im_cons rfl (im_agg2 (.sli rfl) (.sls rfl)) ?_ | refine im_cons rfl (im_agg1 (.ints _)) ?_ | refine im_cons rfl (im_agg1 (.sli rfl)) ?_ | refine im_cons rfl (im_agg1 (.intss _)) ?_ | refine im_cons rfl (im_agg1 (.sls rfl)) ?_ | refine im_cons rfl (im_agg1 (.nil)) ?_ | refine im_cons rfl (im_agg1 (.nils)) ?_)); done))
  | (apply w_call (c3); exact rfl; exact rfl; focus ((repeat (first | exact im_nil | refine im_cons rfl (.val _) ?_ | refine im_cons rfl (.ints _) ?_ | refine im_cons rfl (.intss _) ?_ | refine im_cons rfl (.sli rfl) ?_ | refine im_cons rfl (.sls rfl) ?_ | refine im_cons rfl (.orow rfl) ?_ | refine im_cons rfl (.osub rfl (by simp; omega)) ?_ | refine im_cons rfl (.nil) ?_ | refine im_cons rfl (.nils) ?_ | refine im_cons rfl (im_agg2 (.val _) (.ints _)) ?_ | refine im_cons rfl (im_agg2 (.val _) (.sli rfl)) ?_ | refine im_cons rfl (im_agg2 (.val _) (.nil)) ?_ | refine im_cons rfl (im_agg2 (.ints _) (.intss _)) ?_ | refine im_cons rfl (im_agg2 (.ints _) (.sls rfl)) ?_ | refine im_cons rfl (im_agg2 (.sli rfl) (.intss _)) ?_ | refine im_cons rfl (im_agg2 (.sli rfl) (.sls rfl)) ?_ | refine im_cons rfl (im_agg1 (.ints _)) ?_ | refine im_cons rfl (im_agg1 (.sli rfl)) ?_ | refine im_cons rfl (im_agg1 (.intss _)) ?_ | refine im_cons rfl (im_agg1 (.sls rfl)) ?_ | refine im_cons rfl (im_agg1 (.nil)) ?_ | refine im_cons rfl (im_agg1 (.nils)) ?_)); done))
  | (apply w_call (cv); exact rfl; exact rfl; focus ((repeat (first | exact im_nil | refine im_cons rfl (.val _) ?_ | refine im_cons rfl (.ints _) ?_ | refine im_cons rfl (.intss _) ?_ | refine im_cons rfl (.sli rfl) ?_ | refine im_cons rfl (.sls rfl) ?_ | refine im_cons rfl (.orow rfl) ?_ | refine im_cons rfl (.osub rfl (by simp; omega)) ?_ | refine im_cons rfl (.nil) ?_ | refine im_cons rfl (.nils) ?_ | refine im_cons rfl (im_agg2 (.val _) (.ints _)) ?_ | refine im_cons rfl (im_agg2 (.val _) (.sli rfl)) ?_ | refine im_cons rfl (im_agg2 (.val _) (.nil)) ?_ | refine im_cons rfl (im_agg2 (.ints _) (.intss _)) ?_ | refine im_cons rfl (im_agg2 (.ints _) (.sls rfl)) ?_ | refine im_cons rfl (im_agg2 (.sli rfl) (.intss _)) ?_ | refine im_cons rfl (im_agg2 (.sli rfl) (.sls rfl)) ?_ | refine im_cons rfl (im_agg1 (.ints _)) ?_ | refine im_cons rfl (im_agg1 (.sli rfl)) ?_ | refine im_cons rfl (im_agg1 (.intss _)) ?_ | refine im_cons rfl (im_agg1 (.sls rfl)) ?_ | refine im_cons rfl (im_agg1 (.nil)) ?_ | refine im_cons rfl (im_agg1 (.nils)) ?_)); done))
  | omega
  | ((first | apply w_eqlb | apply w_neqb | apply w_idxs | apply w_lds | apply w_ext); iterate 3 exact rfl)
  | (apply w_rem; exact rfl; exact rfl; exact rfl; (focus (omega; done)); (focus (omega; done)))
  | (apply w_quo; exact rfl; exact rfl; exact rfl; (focus (omega; done)); (focus (omega; done)))
  | (apply w_remT; exact rfl; exact rfl; exact rfl)
  | (apply w_quoT; exact rfl; exact rfl; exact rfl)
  | (apply w_idxo; exact rfl; exact rfl; (first | exact .sli rfl | exact .sls rfl | exact .slr rfl); exact rfl)
  | ((first | apply w_idxr | apply w_ldr); iterate 4 exact rfl)
  | (apply w_ldo; iterate 4 exact rfl)
  | (apply w_ldls; iterate 4 exact rfl)
  | (apply w_ldrp; iterate 4 exact rfl)
  | (apply w_ldb; iterate 5 exact rfl)
  | (apply w_ldst; iterate 5 exact rfl)
  | ((first | apply w_sllh | apply w_stbi); iterate 4 exact rfl)
  | ((first | apply w_oslo | apply w_oshi | apply w_stbii); iterate 4 exact rfl)
  | (apply w_build1; exact rfl; exact rfl; (first | exact one_val rfl rfl | exact one_ints | exact one_intss | exact one_own rfl True.intro))
  | (apply w_build2; exact rfl; exact rfl; exact rfl; (first | exact one_val rfl rfl | exact one_ints | exact one_intss | exact one_own rfl True.intro); (first | exact one_val rfl rfl | exact one_ints | exact one_intss | exact one_own rfl True.intro))
  | (apply w_bs0; iterate 1 exact rfl)
  | (apply w_appn; exact rfl; exact rfl; (first | exact .ints _ | exact .sli rfl | exact .orow rfl | exact .nil | exact .osub rfl (by simp; omega)); exact rfl)
  | (apply w_alst; iterate 2 exact rfl)
  | (apply w_alone; iterate 3 exact rfl)
  | (apply w_mkr; exact rfl; exact rfl; rotate_left 3; exact rfl; rotate_left 1)
  | (apply w_sti; exact rfl; exact rfl; rotate_left 1; exact rfl; rotate_left 2)
  | (apply w_stst; iterate 5 exact rfl)
  | (apply w_stbv; iterate 6 exact rfl)
  | (apply w_stbo; exact rfl; exact rfl; exact rfl; exact rfl; exact rfl; exact True.intro)
  | ((apply AOps.splitB; exact rfl; exact rfl) <;> intro h)
  | apply AllOf.nil
  | (apply AllOf.cons; exact rfl)
  | (apply AAny.take; exact rfl; exact rfl; kernel_rfl; kernel_rfl)
  | (apply AAny.all; exact rfl)
  | (apply AAny.done; exact rfl)
  | (apply inI_of <;> omega)
  | omega
  | (simp <;> omega))
          all_goals first | exact ⟨.intint Try.results73 rfl rfl rfl rfl, [], rfl⟩ | (exfalso; simp_all; done)
end Go.Proofs.Ytbalbiliejjnoaa
/-
  Functions with three results, the first of them new memory. No condition.
-/
namespace Go.Proofs.Ytbalbiliejjnoaa
open Go Go.RowKit
theorem ResIs.a3 {P : Program} {fn : Func} {env : Env} {os : List AO} {t u s : Tmp} (h : fn.results = #[.tmp t, .tmp u, .tmp s]) {a b c : AV} (ha : env.fd t = some a) (hb : env.fd u = some b) (hc : env.fd s = some c) : ResIs P fn env os (.tup [a, b, c]) :=
  fun _ _ _ tm hr => ⟨_, results_tmp3 h tm P _, .tup (vs := [tm.getD t undef, tm.getD u undef, tm.getD s undef]) rfl fun i => by
    match i with
    | 0 => have := hr.he t; rw [gd_of ha] at this; exact this
    | 1 => have := hr.he u; rw [gd_of hb] at this; exact this
    | 2 => have := hr.he s; rw [gd_of hc] at this; exact this
    | i + 3 => exact .any _⟩
end Go.Proofs.Ytbalbiliejjnoaa
/-
  Branch determinants, walked: the reference. Condition: a forest of at most 40 vertices.
-/
namespace Go.Proofs.Ytbalbiliejjnoaa
open Go Go.RowKit
attribute [local irreducible] AWp AOps ResIs Ret1 QOp LOp COp AFnV AFn Imms LeE LeO
set_option maxHeartbeats 1000000
set_option linter.unusedSimpArgs false
set_option linter.unusedVariables false

set_option maxHeartbeats 32000000 in
theorem l11Branches_q (W : List Int) (E : List (List Int)) (h : GrF W E) : AFnC Try.prog 36 [.agg [.ints W, .intss E]] [] (fun r os => (bdOk W.length (nearL E) W ∧ r = .tup [.own 0, .own 1, .b true] ∧ os = [.sli 2 (bdF W.length (nearL E) W), .sli 2 (bdG W.length (nearL E) W)]) ∨
      (¬ bdOk W.length (nearL E) W ∧ r = .tup [.val (.slice none 0 0), .val (.slice none 0 0), .b false] ∧ os = [])) := by
  have hn := h.n
  have hF := h.fo.fst
  have hw := h.w
  have hlab := l11Labels_c W E h
  have hord := l11Order_c W E h
  have hnear := l11Near_c W E h
  have hidx := index_root W E h
  have hlen : (labS W.length (nearL E) W.length).length = W.length := by
    obtain ⟨m, hL⟩ := labS_ok hF (by omega) W.length (Nat.le_refl _)
    exact hL.len
  have hstart := OutI.start (n := W.length) (near := nearL E) (W := W)
  generalize labS W.length (nearL E) W.length = Lb at *
  (refine AFnC.start Try.func36 Try.ntmps36 rfl (by kernel_rfl) fun K => ?_; simp only [Env.start, enumF, List.map_cons, List.map_nil, AV.sh, List.length_cons, List.length_nil, Nat.reduceAdd, Nat.reduceSub, List.cons_append, List.nil_append])
  repeat' (first | (apply AOps.nil; try simp only [List.nil_append, List.cons_append, List.set_cons_zero, List.set_cons_succ, List.length_cons, List.length_nil, Nat.reduceAdd, AV.sh, AV.sh1, AV.sh0, AO.sh, List.map_cons, List.map_nil, Nat.zero_add, Nat.add_zero, setAll]) | (apply w_assign; exact rfl; exact rfl) | apply AWp.seq | apply AWp.region | (apply w_len; exact rfl; exact rfl; first | exact .ints _ | exact .intss _ | exact .sli rfl | exact .sls rfl | exact .slr rfl | exact .orow rfl | exact .nil) | ((first | apply w_ld | apply w_fa); iterate 3 exact rfl) | ((apply w_boxa); iterate 2 exact rfl) | (apply w_ldb; iterate 5 exact rfl))
  refine AWp.regionG [] (by kernel_rfl) (envC := ⟨145, [(1, .optr 1 0), (5, .i W.length), (6, .own 2), (7, .own 3), (8, .own 4)]⟩) (osC := [.keep 1 K, .bx 29 [.ints W, .intss E], .sli 2 (List.replicate W.length 0), .sli 2 (List.replicate W.length 0), .sli 2 Lb]) rfl (by first | exact rfl | (simp [AO.lim, AV.lim, bL_lim]; done)) ?_ ?_
  · repeat' (first | (apply AOps.nil; try simp only [List.nil_append, List.cons_append, List.set_cons_zero, List.set_cons_succ, List.length_cons, List.length_nil, Nat.reduceAdd, AV.sh, AV.sh1, AV.sh0, AO.sh, List.map_cons, List.map_nil, Nat.zero_add, Nat.add_zero, setAll]) | (apply w_move; exact rfl; exact rfl) | (apply w_assign; exact rfl; exact rfl) | apply AllOfG.nil | (apply AllOfG.consQ; exact rfl; exact rfl) | (apply AllOfG.consS; exact rfl; exact rfl) | (apply AAnyG.takeW; exact rfl; exact rfl; kernel_rfl; kernel_rfl) | (apply AAnyG.takeL; exact rfl; exact rfl; kernel_rfl) | (apply AAnyG.all; exact rfl) | (apply AAnyG.done; exact rfl) | (apply w_callm (hlab); (focus ((repeat (first | exact im_nil | refine im_cons rfl (im_agg2 (.ints _) (.intss _)) ?_)); done)); rintro r os0 ⟨rfl, rfl⟩; try simp only [List.nil_append, List.cons_append, List.set_cons_zero, List.set_cons_succ, List.length_cons, List.length_nil, Nat.reduceAdd, AV.sh, AV.sh1, AV.sh0, AO.sh, List.map_cons, List.map_nil, Nat.zero_add, Nat.add_zero, setAll]) | omega | (apply w_ldst; iterate 5 exact rfl) | (apply w_mki; exact rfl; exact rfl; rotate_left 3; exact rfl; rotate_left 1))
    all_goals first | (apply Or.inl; refine ⟨lee rfl ?_, ?_, rfl, (by first | exact rfl | (simp [AO.lim, AV.lim, bL_lim]; done))⟩; (focus ((repeat (first | exact le_nil | refine le_eq rfl rfl ?_)); done)); (focus ((repeat (first | exact lo_nil | refine lo_eq rfl ?_)); done))) | (apply Or.inr; refine ⟨[0, 1, 3, 2, 4], ⟨by decide, fun x hx => Nat.lt_of_lt_of_le ((by decide : ∀ x ∈ ([0, 1, 3, 2, 4] : List Nat), x < 5) x hx) (Nat.le_of_ble_eq_true rfl)⟩, lee rfl ?_, ?_, rfl, (by first | exact rfl | (simp [AO.lim, AV.lim, bL_lim]; done))⟩; (focus ((repeat (first | exact le_nil | refine le_eq rfl rfl ?_)); done)); (focus ((repeat (first | exact lo_nil | refine lo_eq rfl ?_)); done))) | (apply Or.inr; refine ⟨[0, 1, 2, 4, 3], ⟨by decide, fun x hx => Nat.lt_of_lt_of_le ((by decide : ∀ x ∈ ([0, 1, 2, 4, 3] : List Nat), x < 5) x hx) (Nat.le_of_ble_eq_true rfl)⟩, lee rfl ?_, ?_, rfl, (by first | exact rfl | (simp [AO.lim, AV.lim, bL_lim]; done))⟩; (focus ((repeat (first | exact le_nil | refine le_eq rfl rfl ?_)); done)); (focus ((repeat (first | exact lo_nil | refine lo_eq rfl ?_)); done))) | (apply Or.inr; refine ⟨[0, 1, 4, 2, 3], ⟨by decide, fun x hx => Nat.lt_of_lt_of_le ((by decide : ∀ x ∈ ([0, 1, 4, 2, 3] : List Nat), x < 5) x hx) (Nat.le_of_ble_eq_true rfl)⟩, lee rfl ?_, ?_, rfl, (by first | exact rfl | (simp [AO.lim, AV.lim, bL_lim]; done))⟩; (focus ((repeat (first | exact le_nil | refine le_eq rfl rfl ?_)); done)); (focus ((repeat (first | exact lo_nil | refine lo_eq rfl ?_)); done))) | (apply Or.inr; refine ⟨[0, 1, 3, 4, 2], ⟨by decide, fun x hx => Nat.lt_of_lt_of_le ((by decide : ∀ x ∈ ([0, 1, 3, 4, 2] : List Nat), x < 5) x hx) (Nat.le_of_ble_eq_true rfl)⟩, lee rfl ?_, ?_, rfl, (by first | exact rfl | (simp [AO.lim, AV.lim, bL_lim]; done))⟩; (focus ((repeat (first | exact le_nil | refine le_eq rfl rfl ?_)); done)); (focus ((repeat (first | exact lo_nil | refine lo_eq rfl ?_)); done))) | (apply Or.inr; refine ⟨[0, 1, 4, 3, 2], ⟨by decide, fun x hx => Nat.lt_of_lt_of_le ((by decide : ∀ x ∈ ([0, 1, 4, 3, 2] : List Nat), x < 5) x hx) (Nat.le_of_ble_eq_true rfl)⟩, lee rfl ?_, ?_, rfl, (by first | exact rfl | (simp [AO.lim, AV.lim, bL_lim]; done))⟩; (focus ((repeat (first | exact le_nil | refine le_eq rfl rfl ?_)); done)); (focus ((repeat (first | exact lo_nil | refine lo_eq rfl ?_)); done)))
  repeat' (first | (apply AOps.nil; try simp only [List.nil_append, List.cons_append, List.set_cons_zero, List.set_cons_succ, List.length_cons, List.length_nil, Nat.reduceAdd, AV.sh, AV.sh1, AV.sh0, AO.sh, List.map_cons, List.map_nil, Nat.zero_add, Nat.add_zero, setAll]) | (apply w_assign; exact rfl; exact rfl) | apply AWp.seq | apply AWp.region | apply AWp.block)
  refine AWp.loop (ι := Nat × List Int × List Int) (fun x => ⟨145, [(1, .optr 1 0), (5, .i W.length), (6, .own 2), (7, .own 3), (8, .own 4), (9, .i x.1)]⟩) (fun x => [.keep 1 K, .bx 29 [.ints W, .intss E], .sli 2 x.2.1, .sli 2 x.2.2, .sli 2 Lb]) (fun x => x.1 ≤ W.length ∧ OutI W.length (nearL E) W x.1 x.2.1 x.2.2) (fun x => W.length - x.1) (0, List.replicate W.length 0, List.replicate W.length 0) ⟨by simp only; omega, hstart⟩ ⟨lee rfl (by (repeat (first | exact le_nil | refine le_eq rfl rfl ?_))), by (repeat (first | exact lo_nil | refine lo_eq rfl ?_)), rfl, (by first | exact rfl | (simp [AO.lim, AV.lim, bL_lim]; done))⟩ ?_
  rintro ⟨i, f0, h0⟩ ⟨i1, hO⟩
  simp only at i1 hO
  by_cases hi : i < W.length
  · obtain ⟨jx, jx1, jx2, hix⟩ := hidx i hi
    have e7 : geti Lb (((i : Nat) : Int).toNat : Nat) = geti Lb (i : Nat) := by rw [Int.toNat_natCast]
    rw [← e7] at hix
    by_cases hr : (i : Int) ∈ rts W.length (nearL E) W.length
    · have hor := hord (i : Nat) ⟨by omega, by omega⟩
      have ejx := jx2.2 hr
      repeat' (first | (apply AOps.nil; try simp only [List.nil_append, List.cons_append, List.set_cons_zero, List.set_cons_succ, List.length_cons, List.length_nil, Nat.reduceAdd, AV.sh, AV.sh1, AV.sh0, AO.sh, List.map_cons, List.map_nil, Nat.zero_add, Nat.add_zero, setAll]) | (apply w_move; exact rfl; exact rfl) | (apply w_assign; exact rfl; exact rfl) | apply AWp.seq | apply AWp.region | ((apply AWp.condP; exact rfl) <;> intro h) | apply AWp.block | apply AWp.ret | apply AWp.exit | apply AWp.skip | (apply w_len; exact rfl; exact rfl; first | exact .ints _ | exact .intss _ | exact .sli rfl | exact .sls rfl | exact .slr rfl | exact .orow rfl | exact .nil) | (apply w_call (hix); exact rfl; exact rfl; focus ((repeat (first | exact im_nil | refine im_cons rfl (.val _) ?_ | refine im_cons rfl (.sli rfl) ?_)); done)) | (apply w_callc [] (hor); exact rfl; (exact handed0); (focus ((repeat (first | exact imu_nil | refine imu_cons rfl (imu_agg2 (.ints _) (.intss _)) ?_ | refine imu_cons rfl (.val _) ?_)); done)); rintro r os0 ⟨rfl, o, p, htr, rfl⟩; try simp only [List.nil_append, List.cons_append, List.set_cons_zero, List.set_cons_succ, List.length_cons, List.length_nil, Nat.reduceAdd, AV.sh, AV.sh1, AV.sh0, AO.sh, List.map_cons, List.map_nil, Nat.zero_add, Nat.add_zero, setAll]) | omega | ((first | apply w_lss | apply w_neq | apply w_sub | apply w_idx | apply w_ld | apply w_extv); iterate 3 exact rfl) | ((first | apply w_idxs | apply w_lds | apply w_ext); iterate 3 exact rfl) | (apply w_idxo; exact rfl; exact rfl; (exact .sli rfl); exact rfl) | (apply w_ldo; iterate 4 exact rfl) | (apply w_ldst; iterate 5 exact rfl))
      all_goals try (exfalso; omega)
      case _ => have := htr.bd; (apply inI_of <;> omega)
      have hol := htr.bd
      have hrg := htr.rng
      have hpl := htr.len
      refine AWp.loop (ι := Nat × List Int × List Int) (fun x => ⟨145, [(1, .optr 1 0), (5, .i W.length), (6, .own 2), (7, .own 3), (8, .own 4), (9, .i i), (10, .own 5), (11, .own 6), (12, .i ((x.1 : Int) - 1))]⟩) (fun x => [.keep 1 K, .bx 29 [.ints W, .intss E], .sli 2 x.2.1, .sli 2 x.2.2, .sli 2 Lb, .sli 2 o, .sli 2 p]) (fun x => MidI W.length (nearL E) W o p f0 h0 x.1 x.2.1 x.2.2) (fun x => x.1) (o.length, f0, h0) (MidI.start hO) ⟨lee rfl (by (repeat (first | exact le_nil | refine le_eq rfl rfl ?_))), by (repeat (first | exact lo_nil | refine lo_eq rfl ?_)), rfl, (by first | exact rfl | (simp [AO.lim, AV.lim, bL_lim]; done))⟩ ?_
      rintro ⟨t, f, g⟩ hM
      simp only at hM
      have lf := hM.lf
      have lg := hM.lh
      have hle := hM.le
      by_cases ht : t = 0
      · subst ht
        have hdone := hM.done hF hi htr hO hr
        repeat' (first | (apply AOps.nil; try simp only [List.nil_append, List.cons_append, List.set_cons_zero, List.set_cons_succ, List.length_cons, List.length_nil, Nat.reduceAdd, AV.sh, AV.sh1, AV.sh0, AO.sh, List.map_cons, List.map_nil, Nat.zero_add, Nat.add_zero, setAll]) | (apply w_move; exact rfl; exact rfl) | (apply w_assign; exact rfl; exact rfl) | apply AWp.seq | apply AWp.region | ((apply AWp.condP; exact rfl) <;> intro h) | apply AWp.block | apply AWp.exit | apply AWp.skip | omega | ((first | apply w_geq | apply w_add); iterate 3 exact rfl) | (apply inI_of <;> omega))
        all_goals try (exfalso; omega)
        exact ⟨(i + 1, f, g), ⟨by simp only; omega, hdone⟩, by simp only; omega, ⟨lee rfl (by (repeat (first | exact le_nil | refine le_eq rfl rfl ?_))), by (repeat (first | exact lo_nil | refine lo_eq rfl ?_)), rfl, (by first | exact rfl | (simp [AO.lim, AV.lim, bL_lim]; done))⟩⟩
      obtain ⟨s, rfl⟩ : ∃ s, t = s + 1 := ⟨t - 1, by omega⟩
      rw [show (((s + 1 : Nat) : Int) - 1) = (s : Nat) by omega]
      obtain ⟨v, ev⟩ : ∃ v, v = geti o (((s : Nat) : Int).toNat : Nat) := ⟨_, rfl⟩
      have hso : s < o.length := by omega
      have ev2 : o[s]? = some v := by
        rw [ev, Int.toNat_natCast]; simp [geti, List.getD_eq_getElem?_getD, List.getElem?_eq_getElem hso]
      have hvm := List.mem_of_getElem? ev2
      have hvr := hrg v hvm
      have hwv := hw v
      have hnv := hnear v
      have hnl := fun u => hF.bnd v u
      have hput := fun P R q1 q2 q3 => hM.put (P := P) (R := R) htr ev2 q1 q2 q3
      repeat' (first | (apply AOps.nil; try simp only [List.nil_append, List.cons_append, List.set_cons_zero, List.set_cons_succ, List.length_cons, List.length_nil, Nat.reduceAdd, AV.sh, AV.sh1, AV.sh0, AO.sh, List.map_cons, List.map_nil, Nat.zero_add, Nat.add_zero, setAll]) | (apply w_move; exact rfl; exact rfl) | (apply w_assign; exact rfl; exact rfl) | apply AWp.seq | apply AWp.region | ((apply AWp.condP; exact rfl) <;> intro h) | apply AWp.block | apply AWp.exit | apply AWp.skip | omega | ((first | apply w_geq | apply w_idx | apply w_ld); iterate 3 exact rfl) | (apply w_idxo; exact rfl; exact rfl; (exact .sli rfl); exact rfl) | (apply w_ldo; iterate 4 exact rfl))
      all_goals try (exfalso; omega)
      rw [← ev]
      refine AWp.regionG [] (by kernel_rfl) (envC := ⟨145, [(1, .optr 1 0), (5, .i W.length), (6, .own 2), (7, .own 3), (8, .own 4), (9, .i i), (10, .own 5), (11, .own 6), (12, .i s), (13, .i v), (14, .i 1), (15, .i (-geti W v))]⟩) (osC := [.keep 1 K, .bx 29 [.ints W, .intss E], .sli 2 f, .sli 2 g, .sli 2 Lb, .sli 2 o, .sli 2 p]) rfl (by first | exact rfl | (simp [AO.lim, AV.lim, bL_lim]; done)) ?_ ?_
      · repeat' (first | (apply AOps.nil; try simp only [List.nil_append, List.cons_append, List.set_cons_zero, List.set_cons_succ, List.length_cons, List.length_nil, Nat.reduceAdd, AV.sh, AV.sh1, AV.sh0, AO.sh, List.map_cons, List.map_nil, Nat.zero_add, Nat.add_zero, setAll]) | (apply w_move; exact rfl; exact rfl) | (apply w_assign; exact rfl; exact rfl) | (apply AAnyG.takeW; exact rfl; exact rfl; kernel_rfl; kernel_rfl) | (apply AAnyG.takeL; exact rfl; exact rfl; kernel_rfl) | (apply AAnyG.done; exact rfl) | omega | ((first | apply w_idx | apply w_ld | apply w_fa); iterate 3 exact rfl) | ((apply w_neg); iterate 2 exact rfl) | (apply w_ldb; iterate 5 exact rfl) | (apply inI_of <;> omega))
        all_goals (apply Or.inl; refine ⟨lee rfl ?_, ?_, rfl, (by first | exact rfl | (simp [AO.lim, AV.lim, bL_lim]; done))⟩; (focus ((repeat (first | exact le_nil | refine le_eq rfl rfl ?_ | (refine le_eq rfl (congrArg AV.i ?_) ?_; (focus (omega; done))))); done)); (focus ((repeat (first | exact lo_nil | refine lo_eq rfl ?_)); done)))
      repeat' (first | (apply AOps.nil; try simp only [List.nil_append, List.cons_append, List.set_cons_zero, List.set_cons_succ, List.length_cons, List.length_nil, Nat.reduceAdd, AV.sh, AV.sh1, AV.sh0, AO.sh, List.map_cons, List.map_nil, Nat.zero_add, Nat.add_zero, setAll]) | (apply w_move; exact rfl; exact rfl) | (apply w_assign; exact rfl; exact rfl) | apply AWp.seq | apply AWp.region | apply AWp.block | (apply w_callm (hnv); (focus ((repeat (first | exact im_nil | refine im_cons rfl (im_agg2 (.ints _) (.intss _)) ?_ | refine im_cons rfl (.val _) ?_)); done)); rintro r os0 ⟨rfl, rfl⟩; try simp only [List.nil_append, List.cons_append, List.set_cons_zero, List.set_cons_succ, List.length_cons, List.length_nil, Nat.reduceAdd, AV.sh, AV.sh1, AV.sh0, AO.sh, List.map_cons, List.map_nil, Nat.zero_add, Nat.add_zero, setAll]) | (apply w_ldst; iterate 5 exact rfl))
      have hstI := InV.start (n := W.length) (near := nearL E) (W := W) (p := p) (v := v)
      have hfin := fun P R q => InV.fin (n := W.length) (W := W) (P := P) (R := R) htr hvm q
      have hch := fun c q1 q2 => hM.child (c := c) htr ev2 q1 q2
      have hskip := fun k u P R => @InV.skip W.length (nearL E) W p v u P R k
      have hstep := fun k u P R => @InV.step W.length (nearL E) W p f g v u P R k
      have hbad := fun k u P R => @InV.bad W.length (nearL E) W (i : Nat) o p f g v u P R k htr hvm
      have hbdd := bd_bad (W := W) hF hi hr htr hvm
      have hnvl : (nearL E v).length ≤ W.length := nd_len (hF.nd v) (fun x hx => (hF.bnd v x hx).1)
      generalize hNV : nearL E v = nv at *
      refine AWp.loop (ι := Nat × Int × Int) (fun x => ⟨145, [(1, .optr 1 0), (5, .i W.length), (6, .own 2), (7, .own 3), (8, .own 4), (9, .i i), (10, .own 5), (11, .own 6), (12, .i s), (13, .i v), (14, .i x.2.1), (15, .i x.2.2), (16, .own 7), (17, .i x.1)]⟩) (fun _ => [.keep 1 K, .bx 29 [.ints W, .intss E], .sli 2 f, .sli 2 g, .sli 2 Lb, .sli 2 o, .sli 2 p, .sli 2 nv]) (fun x => x.1 ≤ nv.length ∧ InV W.length (nearL E) W p v x.1 x.2.1 x.2.2 ∧ inM x.2.1 ∧ inM x.2.2) (fun x => nv.length - x.1) (0, 1, -geti W v) ⟨by simp only; omega, hstI, by simp only [inM]; omega, by simp only [inM]; omega⟩ ⟨lee rfl (by (repeat (first | exact le_nil | refine le_eq rfl rfl ?_))), by (repeat (first | exact lo_nil | refine lo_eq rfl ?_)), rfl, (by first | exact rfl | (simp [AO.lim, AV.lim, bL_lim]; done))⟩ ?_
      rintro ⟨k, P, R⟩ ⟨k0, hI, hP, hR⟩
      simp only at k0 hI hP hR
      by_cases hk : k < nv.length
      · obtain ⟨u, eu⟩ : ∃ u, u = geti nv (((k : Nat) : Int).toNat : Nat) := ⟨_, rfl⟩
        have eu2 : nv[k]? = some u := by
          rw [eu, Int.toNat_natCast]; simp [geti, List.getD_eq_getElem?_getD, List.getElem?_eq_getElem hk]
        have hum : u ∈ nv := List.mem_of_getElem? eu2
        obtain ⟨ur, _, _⟩ := hnl u hum
        by_cases hup : u = geti p v
        · have hI2 := hskip k u P R hI eu2 hup
          have hup' : geti nv (((k : Nat) : Int).toNat : Nat) = geti p (v.toNat : Nat) := by rw [← eu, Int.toNat_of_nonneg hvr.1]; exact hup
          repeat' (first | (apply AOps.nil; try simp only [List.nil_append, List.cons_append, List.set_cons_zero, List.set_cons_succ, List.length_cons, List.length_nil, Nat.reduceAdd, AV.sh, AV.sh1, AV.sh0, AO.sh, List.map_cons, List.map_nil, Nat.zero_add, Nat.add_zero, setAll]) | (apply w_move; exact rfl; exact rfl) | (apply w_assign; exact rfl; exact rfl) | apply AWp.seq | apply AWp.region | ((apply AWp.condP; exact rfl) <;> intro h) | apply AWp.block | apply AWp.exit | apply AWp.skip | (apply w_len; exact rfl; exact rfl; first | exact .ints _ | exact .intss _ | exact .sli rfl | exact .sls rfl | exact .slr rfl | exact .orow rfl | exact .nil) | omega | ((first | apply w_lss | apply w_eql | apply w_add | apply w_idx | apply w_ld); iterate 3 exact rfl) | (apply w_idxo; exact rfl; exact rfl; (exact .sli rfl); exact rfl) | (apply w_ldo; iterate 4 exact rfl) | (apply inI_of <;> omega))
          all_goals try (exfalso; first | exact absurd hup' (by assumption) | exact absurd (by assumption) hup')
          exact ⟨(k + 1, P, R), ⟨by simp only; omega, hI2, hP, hR⟩, by simp only; omega, ⟨lee rfl (by (repeat (first | exact le_nil | refine le_eq rfl rfl ?_))), by (repeat (first | exact lo_nil | refine lo_eq rfl ?_)), rfl, (by first | exact rfl | (simp [AO.lim, AV.lim, bL_lim]; done))⟩⟩
        · have hup' : ¬ geti nv (((k : Nat) : Int).toNat : Nat) = geti p (v.toNat : Nat) := by rw [← eu, Int.toNat_of_nonneg hvr.1]; exact hup
          have hV := hch u hum hup
          have hI2 := hstep k u P R hI eu2 hup hV
          have hB := fun hn => hbdd (hbad k u P R hI eu2 hup hV hn)
          have hmf : inM (geti f u) := hM.bf _ (geti_mem ur.1 (by omega))
          have hmg : inM (geti g u) := hM.bh _ (geti_mem ur.1 (by omega))
          have eF : geti f (u.toNat : Nat) = geti f u := by rw [Int.toNat_of_nonneg ur.1]
          have eG : geti g (u.toNat : Nat) = geti g u := by rw [Int.toNat_of_nonneg ur.1]
          rw [← eF] at hmf hI2 hB
          rw [← eG] at hmg hI2 hB
          have c1 := l11Times_c R (geti f (u.toNat : Nat)) hR hmf
          have c2 := l11Times_c P (geti g (u.toNat : Nat)) hP hmg
          have c3 := l11Times_c P (geti f (u.toNat : Nat)) hP hmf
          have b1 := tmV_in R (geti f (u.toNat : Nat))
          have b2 := tmV_in P (geti g (u.toNat : Nat))
          have b3 := tmV_in P (geti f (u.toNat : Nat))
          have cv := l01In_c (tmV R (geti f (u.toNat : Nat)) - tmV P (geti g (u.toNat : Nat))) (-1000000000000) 1000000000000
          have hok := okS_iff P R (geti f (u.toNat : Nat)) (geti g (u.toNat : Nat))
          have e1 : tok R (geti f (u.toNat : Nat)) = true → tmV R (geti f (u.toNat : Nat)) = R * geti f (u.toNat : Nat) := fun h => by unfold tmV; rw [if_pos h]
          have e2 : tok P (geti g (u.toNat : Nat)) = true → tmV P (geti g (u.toNat : Nat)) = P * geti g (u.toNat : Nat) := fun h => by unfold tmV; rw [if_pos h]
          have e3 : tok P (geti f (u.toNat : Nat)) = true → tmV P (geti f (u.toNat : Nat)) = P * geti f (u.toNat : Nat) := fun h => by unfold tmV; rw [if_pos h]
          have b1' := b1
          have b2' := b2
          unfold inM at b1' b2'
          repeat' (first | (apply AOps.nil; try simp only [List.nil_append, List.cons_append, List.set_cons_zero, List.set_cons_succ, List.length_cons, List.length_nil, Nat.reduceAdd, AV.sh, AV.sh1, AV.sh0, AO.sh, List.map_cons, List.map_nil, Nat.zero_add, Nat.add_zero, setAll]) | (apply w_move; exact rfl; exact rfl) | (apply w_assign; exact rfl; exact rfl) | apply AWp.seq | apply AWp.region | ((apply AWp.condP; exact rfl) <;> intro h) | apply AWp.block | apply AWp.exit | apply AWp.skip | (apply w_len; exact rfl; exact rfl; first | exact .ints _ | exact .intss _ | exact .sli rfl | exact .sls rfl | exact .slr rfl | exact .orow rfl | exact .nil) | omega | ((first | apply w_lss | apply w_eql | apply w_idx | apply w_ld); iterate 3 exact rfl) | (apply w_idxo; exact rfl; exact rfl; (exact .sli rfl); exact rfl) | (apply w_ldo; iterate 4 exact rfl))
          all_goals try (exfalso; first | exact absurd hup' (by assumption) | exact absurd (by assumption) hup')
          rw [← eu]
          cases h1 : tok R (geti f (u.toNat : Nat)) with
          | false =>
            rw [h1] at c1 hok
            have hbd := hB (by rw [hok]; simp)
            repeat' (first | (apply AOps.nil; try simp only [List.nil_append, List.cons_append, List.set_cons_zero, List.set_cons_succ, List.length_cons, List.length_nil, Nat.reduceAdd, AV.sh, AV.sh1, AV.sh0, AO.sh, List.map_cons, List.map_nil, Nat.zero_add, Nat.add_zero, setAll]) | (apply w_move; exact rfl; exact rfl) | (apply w_assign; exact rfl; exact rfl) | apply AWp.seq | apply AWp.region | (apply AWp.condT; exact rfl) | apply AWp.ret | (apply w_skip; exact rfl) | (apply w_pickT; exact rfl; exact rfl; exact rfl) | (apply w_call (c1); exact rfl; exact rfl; focus ((repeat (first | exact im_nil | refine im_cons rfl (.val _) ?_)); done)) | (apply w_call (c2); exact rfl; exact rfl; focus ((repeat (first | exact im_nil | refine im_cons rfl (.val _) ?_)); done)) | (apply w_call (c3); exact rfl; exact rfl; focus ((repeat (first | exact im_nil | refine im_cons rfl (.val _) ?_)); done)) | omega | ((first | apply w_sub | apply w_idx | apply w_ld | apply w_extv); iterate 3 exact rfl) | ((apply w_not); iterate 2 exact rfl) | (apply w_idxo; exact rfl; exact rfl; (exact .sli rfl); exact rfl) | (apply w_ldo; iterate 4 exact rfl) | (apply inI_of <;> omega))
            all_goals try (exfalso; omega)
            refine ⟨⟨145, [(2, .val (.slice none 0 0)), (3, .val (.slice none 0 0)), (4, .b false)]⟩, [], .tup [.val (.slice none 0 0), .val (.slice none 0 0), .b false], Turns.or ?_, ResIs.a3 rfl rfl rfl rfl, all_cons' trivial (all_cons' trivial (all_cons' trivial all_nil')), .inr ⟨hbd, rfl, rfl⟩, all_nil'⟩
            (apply Or.inl; refine ⟨lee rfl ?_, ?_, rfl, (by first | exact rfl | (simp [AO.lim, AV.lim, bL_lim]; done))⟩; (focus ((repeat (first | exact le_nil | refine le_eq rfl rfl ?_)); done)); (focus ((repeat (first | exact lo_nil | refine lo_eq rfl ?_)); done)))
          | true =>
          rw [h1] at c1 hok
          cases h2 : tok P (geti g (u.toNat : Nat)) with
          | false =>
            rw [h2] at c2 hok
            have hbd := hB (by rw [hok]; simp)
            repeat' (first | (apply AOps.nil; try simp only [List.nil_append, List.cons_append, List.set_cons_zero, List.set_cons_succ, List.length_cons, List.length_nil, Nat.reduceAdd, AV.sh, AV.sh1, AV.sh0, AO.sh, List.map_cons, List.map_nil, Nat.zero_add, Nat.add_zero, setAll]) | (apply w_move; exact rfl; exact rfl) | (apply w_assign; exact rfl; exact rfl) | apply AWp.seq | apply AWp.region | (apply AWp.condT; exact rfl) | apply AWp.ret | (apply w_skip; exact rfl) | (apply w_pickT; exact rfl; exact rfl; exact rfl) | (apply w_pickF; exact rfl; exact rfl; exact rfl) | (apply w_call (c1); exact rfl; exact rfl; focus ((repeat (first | exact im_nil | refine im_cons rfl (.val _) ?_)); done)) | (apply w_call (c2); exact rfl; exact rfl; focus ((repeat (first | exact im_nil | refine im_cons rfl (.val _) ?_)); done)) | (apply w_call (c3); exact rfl; exact rfl; focus ((repeat (first | exact im_nil | refine im_cons rfl (.val _) ?_)); done)) | omega | ((first | apply w_sub | apply w_idx | apply w_ld | apply w_extv); iterate 3 exact rfl) | ((apply w_not); iterate 2 exact rfl) | (apply w_idxo; exact rfl; exact rfl; (exact .sli rfl); exact rfl) | (apply w_ldo; iterate 4 exact rfl) | (apply inI_of <;> omega))
            all_goals try (exfalso; omega)
            refine ⟨⟨145, [(2, .val (.slice none 0 0)), (3, .val (.slice none 0 0)), (4, .b false)]⟩, [], .tup [.val (.slice none 0 0), .val (.slice none 0 0), .b false], Turns.or ?_, ResIs.a3 rfl rfl rfl rfl, all_cons' trivial (all_cons' trivial (all_cons' trivial all_nil')), .inr ⟨hbd, rfl, rfl⟩, all_nil'⟩
            (apply Or.inl; refine ⟨lee rfl ?_, ?_, rfl, (by first | exact rfl | (simp [AO.lim, AV.lim, bL_lim]; done))⟩; (focus ((repeat (first | exact le_nil | refine le_eq rfl rfl ?_)); done)); (focus ((repeat (first | exact lo_nil | refine lo_eq rfl ?_)); done)))
          | true =>
          rw [h2] at c2 hok
          cases h3 : tok P (geti f (u.toNat : Nat)) with
          | false =>
            rw [h3] at c3 hok
            have hbd := hB (by rw [hok]; simp)
            repeat' (first | (apply AOps.nil; try simp only [List.nil_append, List.cons_append, List.set_cons_zero, List.set_cons_succ, List.length_cons, List.length_nil, Nat.reduceAdd, AV.sh, AV.sh1, AV.sh0, AO.sh, List.map_cons, List.map_nil, Nat.zero_add, Nat.add_zero, setAll]) | (apply w_move; exact rfl; exact rfl) | (apply w_assign; exact rfl; exact rfl) | apply AWp.seq | apply AWp.region | (apply AWp.condT; exact rfl) | apply AWp.ret | (apply w_skip; exact rfl) | (apply w_pickT; exact rfl; exact rfl; exact rfl) | (apply w_pickF; exact rfl; exact rfl; exact rfl) | (apply w_call (c1); exact rfl; exact rfl; focus ((repeat (first | exact im_nil | refine im_cons rfl (.val _) ?_)); done)) | (apply w_call (c2); exact rfl; exact rfl; focus ((repeat (first | exact im_nil | refine im_cons rfl (.val _) ?_)); done)) | (apply w_call (c3); exact rfl; exact rfl; focus ((repeat (first | exact im_nil | refine im_cons rfl (.val _) ?_)); done)) | omega | ((first | apply w_sub | apply w_idx | apply w_ld | apply w_extv); iterate 3 exact rfl) | ((apply w_not); iterate 2 exact rfl) | (apply w_idxo; exact rfl; exact rfl; (exact .sli rfl); exact rfl) | (apply w_ldo; iterate 4 exact rfl) | (apply inI_of <;> omega))
            all_goals try (exfalso; omega)
            refine ⟨⟨145, [(2, .val (.slice none 0 0)), (3, .val (.slice none 0 0)), (4, .b false)]⟩, [], .tup [.val (.slice none 0 0), .val (.slice none 0 0), .b false], Turns.or ?_, ResIs.a3 rfl rfl rfl rfl, all_cons' trivial (all_cons' trivial (all_cons' trivial all_nil')), .inr ⟨hbd, rfl, rfl⟩, all_nil'⟩
            (apply Or.inl; refine ⟨lee rfl ?_, ?_, rfl, (by first | exact rfl | (simp [AO.lim, AV.lim, bL_lim]; done))⟩; (focus ((repeat (first | exact le_nil | refine le_eq rfl rfl ?_)); done)); (focus ((repeat (first | exact lo_nil | refine lo_eq rfl ?_)); done)))
          | true =>
          rw [h3] at c3 hok
          cases h4 : decide (-1000000000000 ≤ tmV R (geti f (u.toNat : Nat)) - tmV P (geti g (u.toNat : Nat)) ∧ tmV R (geti f (u.toNat : Nat)) - tmV P (geti g (u.toNat : Nat)) ≤ 1000000000000) with
          | false =>
            rw [h4] at cv hok
            have hbd := hB (by rw [hok]; simp)
            repeat' (first | (apply AOps.nil; try simp only [List.nil_append, List.cons_append, List.set_cons_zero, List.set_cons_succ, List.length_cons, List.length_nil, Nat.reduceAdd, AV.sh, AV.sh1, AV.sh0, AO.sh, List.map_cons, List.map_nil, Nat.zero_add, Nat.add_zero, setAll]) | (apply w_move; exact rfl; exact rfl) | (apply w_assign; exact rfl; exact rfl) | apply AWp.seq | apply AWp.region | (apply AWp.condT; exact rfl) | apply AWp.ret | (apply w_pickF; exact rfl; exact rfl; exact rfl) | (apply w_call (c1); exact rfl; exact rfl; focus ((repeat (first | exact im_nil | refine im_cons rfl (.val _) ?_)); done)) | (apply w_call (c2); exact rfl; exact rfl; focus ((repeat (first | exact im_nil | refine im_cons rfl (.val _) ?_)); done)) | (apply w_call (c3); exact rfl; exact rfl; focus ((repeat (first | exact im_nil | refine im_cons rfl (.val _) ?_)); done)) | (apply w_call (cv); exact rfl; exact rfl; focus ((repeat (first | exact im_nil | refine im_cons rfl (.val _) ?_)); done)) | omega | ((first | apply w_sub | apply w_idx | apply w_ld | apply w_extv); iterate 3 exact rfl) | ((apply w_not); iterate 2 exact rfl) | (apply w_idxo; exact rfl; exact rfl; (exact .sli rfl); exact rfl) | (apply w_ldo; iterate 4 exact rfl) | (apply inI_of <;> omega))
            all_goals try (exfalso; omega)
            refine ⟨⟨145, [(2, .val (.slice none 0 0)), (3, .val (.slice none 0 0)), (4, .b false)]⟩, [], .tup [.val (.slice none 0 0), .val (.slice none 0 0), .b false], Turns.or ?_, ResIs.a3 rfl rfl rfl rfl, all_cons' trivial (all_cons' trivial (all_cons' trivial all_nil')), .inr ⟨hbd, rfl, rfl⟩, all_nil'⟩
            (apply Or.inl; refine ⟨lee rfl ?_, ?_, rfl, (by first | exact rfl | (simp [AO.lim, AV.lim, bL_lim]; done))⟩; (focus ((repeat (first | exact le_nil | refine le_eq rfl rfl ?_)); done)); (focus ((repeat (first | exact lo_nil | refine lo_eq rfl ?_)); done)))
          | true =>
            rw [h4] at cv hok
            have hr4 := of_decide_eq_true h4
            have hI3 := hI2 (by rw [hok]; rfl)
            rw [← e1 h1, ← e2 h2, ← e3 h3] at hI3
            repeat' (first | (apply AOps.nil; try simp only [List.nil_append, List.cons_append, List.set_cons_zero, List.set_cons_succ, List.length_cons, List.length_nil, Nat.reduceAdd, AV.sh, AV.sh1, AV.sh0, AO.sh, List.map_cons, List.map_nil, Nat.zero_add, Nat.add_zero, setAll]) | (apply w_move; exact rfl; exact rfl) | (apply w_assign; exact rfl; exact rfl) | apply AWp.seq | apply AWp.region | (apply AWp.condF; exact rfl) | apply AWp.skip | (apply w_pickF; exact rfl; exact rfl; exact rfl) | (apply w_call (c1); exact rfl; exact rfl; focus ((repeat (first | exact im_nil | refine im_cons rfl (.val _) ?_)); done)) | (apply w_call (c2); exact rfl; exact rfl; focus ((repeat (first | exact im_nil | refine im_cons rfl (.val _) ?_)); done)) | (apply w_call (c3); exact rfl; exact rfl; focus ((repeat (first | exact im_nil | refine im_cons rfl (.val _) ?_)); done)) | (apply w_call (cv); exact rfl; exact rfl; focus ((repeat (first | exact im_nil | refine im_cons rfl (.val _) ?_)); done)) | omega | ((first | apply w_add | apply w_sub | apply w_idx | apply w_ld | apply w_extv); iterate 3 exact rfl) | ((apply w_not); iterate 2 exact rfl) | (apply w_idxo; exact rfl; exact rfl; (exact .sli rfl); exact rfl) | (apply w_ldo; iterate 4 exact rfl) | (apply inI_of <;> omega))
            all_goals try (exfalso; omega)
            exact ⟨(k + 1, tmV P (geti f (u.toNat : Nat)), tmV R (geti f (u.toNat : Nat)) - tmV P (geti g (u.toNat : Nat))), ⟨by simp only; omega, hI3, b3, hr4⟩, by simp only; omega, ⟨lee rfl (by (repeat (first | exact le_nil | refine le_eq rfl rfl ?_))), by (repeat (first | exact lo_nil | refine lo_eq rfl ?_)), rfl, (by first | exact rfl | (simp [AO.lim, AV.lim, bL_lim]; done))⟩⟩
      · have ek : k = nv.length := by omega
        subst ek
        have hFG := hfin P R hI
        have hp2 := hput P R hFG hP hR
        unfold inM at hP hR
        repeat' (first | (apply AOps.nil; try simp only [List.nil_append, List.cons_append, List.set_cons_zero, List.set_cons_succ, List.length_cons, List.length_nil, Nat.reduceAdd, AV.sh, AV.sh1, AV.sh0, AO.sh, List.map_cons, List.map_nil, Nat.zero_add, Nat.add_zero, setAll]) | (apply w_move; exact rfl; exact rfl) | (apply w_assign; exact rfl; exact rfl) | apply AWp.seq | apply AWp.region | ((apply AWp.condP; exact rfl) <;> intro h) | apply AWp.block | apply AWp.exit | apply AWp.skip | (apply w_len; exact rfl; exact rfl; first | exact .ints _ | exact .intss _ | exact .sli rfl | exact .sls rfl | exact .slr rfl | exact .orow rfl | exact .nil) | omega | ((first | apply w_lss | apply w_sub | apply w_idx); iterate 3 exact rfl) | (apply w_idxo; exact rfl; exact rfl; (exact .sli rfl); exact rfl) | (apply w_sti; exact rfl; exact rfl; rotate_left 1; exact rfl; rotate_left 2) | (apply inI_of <;> omega))
        exact ⟨(s, f.set v.toNat R, g.set v.toNat P), hp2, by simp only; omega, ⟨lee rfl (by (repeat (first | exact le_nil | refine le_eq rfl rfl ?_))), by (repeat (first | exact lo_nil | refine lo_eq rfl ?_)), rfl, (by first | exact rfl | (simp [AO.lim, AV.lim, bL_lim]; done))⟩⟩
    · have ejx : ¬ jx = i := fun hh => hr (jx2.1 hh)
      have hsk := hO.skip hF hi hr
      repeat' (first | (apply AOps.nil; try simp only [List.nil_append, List.cons_append, List.set_cons_zero, List.set_cons_succ, List.length_cons, List.length_nil, Nat.reduceAdd, AV.sh, AV.sh1, AV.sh0, AO.sh, List.map_cons, List.map_nil, Nat.zero_add, Nat.add_zero, setAll]) | (apply w_move; exact rfl; exact rfl) | (apply w_assign; exact rfl; exact rfl) | apply AWp.seq | apply AWp.region | ((apply AWp.condP; exact rfl) <;> intro h) | apply AWp.block | apply AWp.ret | apply AWp.exit | apply AWp.skip | (apply w_call (hix); exact rfl; exact rfl; focus ((repeat (first | exact im_nil | refine im_cons rfl (.val _) ?_ | refine im_cons rfl (.sli rfl) ?_)); done)) | omega | ((first | apply w_lss | apply w_neq | apply w_add | apply w_idx | apply w_ld); iterate 3 exact rfl) | (apply w_idxo; exact rfl; exact rfl; (exact .sli rfl); exact rfl) | (apply w_ldo; iterate 4 exact rfl) | (apply inI_of <;> omega))
      all_goals try (exfalso; omega)
      exact ⟨(i + 1, f0, h0), ⟨by simp only; omega, hsk⟩, by simp only; omega, ⟨lee rfl (by (repeat (first | exact le_nil | refine le_eq rfl rfl ?_))), by (repeat (first | exact lo_nil | refine lo_eq rfl ?_)), rfl, (by first | exact rfl | (simp [AO.lim, AV.lim, bL_lim]; done))⟩⟩
  · have ei : i = W.length := by omega
    subst ei
    obtain ⟨q1, q2, q3⟩ := hO.fin hF
    repeat' (first | (apply AOps.nil; try simp only [List.nil_append, List.cons_append, List.set_cons_zero, List.set_cons_succ, List.length_cons, List.length_nil, Nat.reduceAdd, AV.sh, AV.sh1, AV.sh0, AO.sh, List.map_cons, List.map_nil, Nat.zero_add, Nat.add_zero, setAll]) | (apply w_move; exact rfl; exact rfl) | (apply w_assign; exact rfl; exact rfl) | apply AWp.seq | apply AWp.region | ((apply AWp.condP; exact rfl) <;> intro h) | apply AWp.block | apply AWp.ret | apply AWp.exit | apply AWp.skip | omega | ((apply w_lss); iterate 3 exact rfl))
    refine ⟨⟨145, [(2, .own 1), (3, .own 2), (4, .b true)]⟩, [.sli 2 f0, .sli 2 h0], .tup [.own 0, .own 1, .b true], Turns.or ?_, ResIs.a3 rfl rfl rfl rfl, all_cons' trivial (all_cons' trivial (all_cons' trivial all_nil')), .inl ⟨q1, rfl, by rw [q2, q3]⟩, all_cons' trivial (all_cons' trivial all_nil')⟩
    (apply Or.inr; refine ⟨[0, 2, 3], ⟨by decide, fun x hx => Nat.lt_of_lt_of_le ((by decide : ∀ x ∈ ([0, 2, 3] : List Nat), x < 4) x hx) (Nat.le_of_ble_eq_true rfl)⟩, lee rfl ?_, ?_, rfl, (by first | exact rfl | (simp [AO.lim, AV.lim, bL_lim]; done))⟩; (focus ((repeat (first | exact le_nil | refine le_eq rfl rfl ?_)); done)); (focus ((repeat (first | exact lo_nil | refine lo_eq rfl ?_)); done)))
end Go.Proofs.Ytbalbiliejjnoaa
/-
  Components by labels: the number of roots tells whether all edges join two components. No condition.
-/
set_option linter.unusedSimpArgs false
set_option linter.unusedVariables false
namespace Go.Proofs.Ytbalbiliejjnoaa
open Go Go.RowKit

theorem geti_set0 {p : List Int} {u v x : Int} (h0 : 0 ≤ u) (hx : 0 ≤ x) (h1 : u < p.length) : geti (p.set u.toNat v) x = if x = u then v else geti p x := by
  simp only [geti, List.getD_eq_getElem?_getD, List.getElem?_set]
  by_cases e : x = u
  · subst e; rw [if_pos rfl, if_pos (by omega), if_pos rfl]; rfl
  · rw [if_neg (by omega), if_neg e]
def idL (n : Nat) : List Int := (List.range n).map fun (i : Nat) => (i : Int)
theorem idL_len (n : Nat) : (idL n).length = n := by simp [idL]
theorem idL_get {n : Nat} {x : Int} (h : 0 ≤ x ∧ x < n) : geti (idL n) x = x := by
  obtain ⟨m, rfl⟩ := Int.eq_ofNat_of_zero_le h.1
  have : m < n := by omega
  simp [geti, idL, List.getD_eq_getElem?_getD, this]
/-- The lesser label stays. -/
def mmL (L : List Int) (e : List Int) : List Int := mgL L (min (geti L (geti e 0)) (geti L (geti e 1))) (max (geti L (geti e 0)) (geti L (geti e 1)))
def lbR : List Int → List (List Int) → List Int
  | L, [] => L
  | L, e :: E => lbR (mmL L e) E
theorem lbR_app : ∀ (A B : List (List Int)) (L : List Int), lbR L (A ++ B) = lbR (lbR L A) B
  | [], _, _ => rfl
  | _ :: A, B, L => lbR_app A B _
structure RI (n : Nat) (L : List Int) : Prop where
  len : L.length = n
  lo : ∀ x : Int, 0 ≤ x → x < n → 0 ≤ geti L x
  hi : ∀ x : Int, 0 ≤ x → x < n → geti L x ≤ x
  idem : ∀ x : Int, 0 ≤ x → x < n → geti L (geti L x) = geti L x
theorem RI.id (n : Nat) : RI n (idL n) := ⟨idL_len n, fun x h0 h1 => by rw [idL_get ⟨h0, h1⟩]; exact h0, fun x h0 h1 => by rw [idL_get ⟨h0, h1⟩]; exact Int.le_refl _, fun x h0 h1 => by rw [idL_get ⟨h0, h1⟩, idL_get ⟨h0, h1⟩]⟩
def rcL (L : List Int) (i : Nat) : Nat := ((List.range i).filter fun x => decide (geti L (x : Nat) = (x : Nat))).length
theorem rc_id (n : Nat) : ∀ i, i ≤ n → rcL (idL n) i = i := fun i hi => by
  unfold rcL
  rw [List.filter_eq_self.2, List.length_range]
  intro x hx
  have := List.mem_range.1 hx
  exact decide_eq_true (idL_get ⟨by omega, by omega⟩)
theorem rc_succ (L : List Int) (i : Nat) : rcL L (i + 1) = rcL L i + if geti L (i : Nat) = (i : Nat) then 1 else 0 := by
  unfold rcL
  rw [List.range_succ, List.filter_append, List.length_append]
  congr 1
  by_cases h : geti L (i : Nat) = (i : Nat)
  · rw [if_pos h, List.filter_cons_of_pos (by exact decide_eq_true h)]; rfl
  · rw [if_neg h, List.filter_cons_of_neg (by simpa using h)]; rfl
/-- A merge of two roots. -/
theorem RI.merge {n : Nat} {L : List Int} (h : RI n L) {a b : Int} (ha : 0 ≤ a) (hab : a < b) (hb : b < n) (ra : geti L a = a) (rb : geti L b = b) :
    RI n (mgL L a b) ∧ ∀ i : Nat, i ≤ n → rcL (mgL L a b) i + (if b < i then 1 else 0) = rcL L i := by
  have hl := h.len
  have hg : ∀ x : Int, 0 ≤ x → x < n → geti (mgL L a b) x = if geti L x = b then a else geti L x := fun x h0 h1 => mgL_get h0 (by omega)
  refine ⟨⟨by rw [mgL_len]; exact hl, fun x h0 h1 => ?_, fun x h0 h1 => ?_, fun x h0 h1 => ?_⟩, ?_⟩
  · rw [hg x h0 h1]; split
    · exact ha
    · exact h.lo x h0 h1
  · rw [hg x h0 h1]; have := h.hi x h0 h1; split
    · omega
    · exact this
  · have l1 := h.lo x h0 h1
    have l2 := h.hi x h0 h1
    rw [hg x h0 h1]
    by_cases e : geti L x = b
    · rw [if_pos e, hg a ha (by omega), ra, if_neg (by omega)]
    · rw [if_neg e, hg _ l1 (by omega), h.idem x h0 h1, if_neg e]
  · intro i
    induction i with
    | zero => intro _; rw [if_neg (by omega)]; rfl
    | succ i ih =>
      intro hi
      have ih := ih (by omega)
      rw [rc_succ, rc_succ, hg (i : Nat) (by omega) (by omega)]
      by_cases e : (i : Int) = b
      · subst e
        rw [if_pos rb, if_neg (by omega), if_pos (by omega), if_pos rb]
        rw [if_neg (by omega)] at ih; omega
      · have e2 : (b < ((i + 1 : Nat) : Int)) ↔ (b < (i : Nat)) := by omega
        have e3 : ((if geti L (i : Nat) = b then a else geti L (i : Nat)) = (i : Nat)) ↔ geti L (i : Nat) = (i : Nat) := by
          by_cases e4 : geti L (i : Nat) = b
          · rw [if_pos e4]
            constructor
            · intro h5; rw [← h5, ra] at e4; omega
            · intro h5; omega
          · rw [if_neg e4]
        simp only [e2, e3]; omega
theorem mgL_self (L : List Int) (a : Int) : mgL L a a = L := by
  unfold mgL
  conv => rhs; rw [← List.map_id L]
  apply List.map_congr_left
  intro x _
  split
  · rename_i h; exact h.symm
  · rfl
theorem RI.mm {n : Nat} {L : List Int} (h : RI n L) {e : List Int} (he : EIn n e) :
    RI n (mmL L e) ∧ rcL (mmL L e) n + (if geti L (geti e 0) = geti L (geti e 1) then 0 else 1) = rcL L n := by
  obtain ⟨_, e2, e3, e4⟩ := he
  have l1 := h.lo _ e2 (by omega)
  have l2 := h.hi _ e2 (by omega)
  have l3 := h.lo (geti e 1) (by omega) e4
  have l4 := h.hi (geti e 1) (by omega) e4
  have i1 := h.idem _ e2 (by omega)
  have i2 := h.idem (geti e 1) (by omega) e4
  unfold mmL
  generalize geti L (geti e 0) = a at *
  generalize geti L (geti e 1) = b at *
  rcases Int.lt_trichotomy a b with hab | hab | hab
  · rw [Int.min_eq_left (by omega), Int.max_eq_right (by omega)]
    obtain ⟨q1, q2⟩ := h.merge l1 hab (by omega) i1 i2
    have := q2 n (Nat.le_refl _)
    rw [if_pos (by omega)] at this
    exact ⟨q1, by rw [if_neg (by omega)]; exact this⟩
  · subst hab
    rw [Int.min_self, Int.max_self, mgL_self]
    exact ⟨h, by rw [if_pos rfl]; rfl⟩
  · rw [Int.min_eq_right (by omega), Int.max_eq_left (by omega)]
    obtain ⟨q1, q2⟩ := h.merge l3 hab (by omega) i2 i1
    have := q2 n (Nat.le_refl _)
    rw [if_pos (by omega)] at this
    exact ⟨q1, by rw [if_neg (by omega)]; exact this⟩
/-- Two labellings tell the same vertices apart. -/
def Same (n : Nat) (L M : List Int) : Prop := ∀ x y : Int, 0 ≤ x → x < n → 0 ≤ y → y < n → (geti L x = geti L y ↔ geti M x = geti M y)
theorem mg_eq {L : List Int} {a b : Int} {u v : Int} (hu : 0 ≤ u ∧ u < L.length) (hv : 0 ≤ v ∧ v < L.length) :
    geti (mgL L a b) u = geti (mgL L a b) v ↔ (geti L u = geti L v ∨ ((geti L u = a ∨ geti L u = b) ∧ (geti L v = a ∨ geti L v = b))) := by
  rw [mgL_get hu.1 hu.2, mgL_get hv.1 hv.2]
  by_cases h1 : geti L u = b <;> by_cases h2 : geti L v = b <;> simp only [h1, h2, if_true, if_false, or_true, or_false, true_and, false_or, and_true, iff_true, true_iff] <;> omega
theorem mm_eq {n : Nat} {L : List Int} {e : List Int} (hl : L.length = n) {u v : Int} (hu : 0 ≤ u ∧ u < n) (hv : 0 ≤ v ∧ v < n) :
    geti (mmL L e) u = geti (mmL L e) v ↔ (geti L u = geti L v ∨ ((geti L u = geti L (geti e 0) ∨ geti L u = geti L (geti e 1)) ∧ (geti L v = geti L (geti e 0) ∨ geti L v = geti L (geti e 1)))) := by
  unfold mmL
  rw [mg_eq (by omega) (by omega)]
  rcases Int.le_total (geti L (geti e 0)) (geti L (geti e 1)) with h | h
  · rw [Int.min_eq_left h, Int.max_eq_right h]
  · rw [Int.min_eq_right h, Int.max_eq_left h]; constructor <;> (intro h; rcases h with h | ⟨h1, h2⟩) <;> simp_all [or_comm]
theorem Same.step {n : Nat} {L M : List Int} (h : Same n L M) (hl : L.length = n) (hm : M.length = n) {e : List Int} (he : EIn n e) :
    Same n (mmL L e) (mgL M (geti M (geti e 0)) (geti M (geti e 1))) := by
  obtain ⟨_, e2, e3, e4⟩ := he
  intro x y h0 h1 h2 h3
  rw [mm_eq hl ⟨h0, h1⟩ ⟨h2, h3⟩, mg_eq (by omega) (by omega), h x y h0 h1 h2 h3, h x _ h0 h1 e2 (by omega), h x (geti e 1) h0 h1 (by omega) e4, h y _ h2 h3 e2 (by omega), h y (geti e 1) h2 h3 (by omega) e4]
theorem rc_run {n : Nat} : ∀ {E : List (List Int)} {L M : List Int}, RI n L → Same n L M → M.length = n → (∀ e ∈ E, EIn n e) →
    RI n (lbR L E) ∧ rcL L n ≤ rcL (lbR L E) n + E.length ∧ (rcL (lbR L E) n + E.length = rcL L n ↔ effL M E)
  | [], L, M, h, _, _, _ => ⟨h, by simp [lbR], by simp [lbR, effL]⟩
  | e :: E, L, M, h, hs, hm, hE => by
    have he := hE e (by simp)
    obtain ⟨q1, q2⟩ := h.mm he
    obtain ⟨_, e2, e3, e4⟩ := id he
    have hsame := hs (geti e 0) (geti e 1) e2 (by omega) (by omega) e4
    obtain ⟨r1, r2, r3⟩ := rc_run (E := E) q1 (hs.step h.len hm he) (by rw [mgL_len]; exact hm) fun f hf => hE f (by simp [hf])
    refine ⟨r1, ?_, ?_⟩
    · show rcL L n ≤ rcL (lbR (mmL L e) E) n + (E.length + 1)
      split at q2 <;> omega
    · show rcL (lbR (mmL L e) E) n + (E.length + 1) = rcL L n ↔ (geti M (geti e 0) ≠ geti M (geti e 1) ∧ effL _ E)
      rw [← r3]
      constructor
      · intro h5
        have h6 : ¬ geti L (geti e 0) = geti L (geti e 1) := by
          intro h7; rw [if_pos h7] at q2; omega
        rw [if_neg h6] at q2
        exact ⟨fun h8 => h6 (hsame.2 h8), by omega⟩
      · rintro ⟨h5, h6⟩
        rw [if_neg (fun h8 => h5 (hsame.1 h8))] at q2
        omega
/-- The new numbers. -/
def nmF (L : List Int) : Nat → List Int × Int
  | 0 => (L, 0)
  | i + 1 => if geti (nmF L i).1 (i : Nat) = (i : Nat) then ((nmF L i).1.set i (nmF L i).2, (nmF L i).2 + 1) else ((nmF L i).1.set i (geti (nmF L i).1 (geti (nmF L i).1 (i : Nat))), (nmF L i).2)
structure NmI (n : Nat) (L : List Int) (i : Nat) (s : List Int × Int) : Prop where
  len : s.1.length = n
  num : s.2 = rcL L i
  old : ∀ x : Int, (i : Int) ≤ x → geti s.1 x = geti L x
  lo : ∀ x : Int, 0 ≤ x → x < i → 0 ≤ geti s.1 x
  hi : ∀ x : Int, 0 ≤ x → x < i → geti s.1 x < s.2
  top : 0 < i → ∃ x : Int, 0 ≤ x ∧ x < i ∧ geti s.1 x = s.2 - 1
theorem nm_run {n : Nat} {L : List Int} (h : RI n L) : ∀ i, i ≤ n → NmI n L i (nmF L i)
  | 0, _ => ⟨h.len, by simp [nmF, rcL], fun _ _ => rfl, fun x h0 h1 => by omega, fun x h0 h1 => by omega, fun h => by omega⟩
  | i + 1, hi => by
    have ih := nm_run h i (by omega)
    have hr := rc_succ L i
    have ho := ih.old (i : Nat) (Int.le_refl _)
    have hl := ih.len
    have hnum := ih.num
    have l1 := h.lo (i : Nat) (by omega) (by omega)
    have l2 := h.hi (i : Nat) (by omega) (by omega)
    rw [nmF]
    have hset : ∀ v x : Int, 0 ≤ x → geti ((nmF L i).1.set i v) x = if x = (i : Nat) then v else geti (nmF L i).1 x := fun v x hx => by
      have := geti_set0 (p := (nmF L i).1) (u := (i : Nat)) (v := v) (x := x) (by omega) hx (by omega)
      simpa using this
    rw [ho]
    by_cases hc : geti L (i : Nat) = (i : Nat)
    · rw [if_pos hc] at hr ⊢
      refine ⟨by simp [hl], by simp only; omega, fun x hx => ?_, fun x h0 h1 => ?_, fun x h0 h1 => ?_, fun _ => ⟨(i : Nat), by omega, by omega, ?_⟩⟩
      · rw [hset _ _ (by omega), if_neg (by omega)]; exact ih.old x (by omega)
      · rw [hset _ _ h0]; split
        · omega
        · exact ih.lo x h0 (by omega)
      · rw [hset _ _ h0]; dsimp only; split
        · omega
        · have := ih.hi x h0 (by omega); omega
      · rw [hset _ _ (by omega), if_pos rfl]; dsimp only; omega
    · rw [if_neg hc] at hr ⊢
      have h3 : geti L (i : Nat) < (i : Nat) := by omega
      have g1 := ih.lo _ l1 h3
      have g2 := ih.hi _ l1 h3
      refine ⟨by simp [hl], by simp only; omega, fun x hx => ?_, fun x h0 h1 => ?_, fun x h0 h1 => ?_, fun _ => ?_⟩
      · rw [hset _ _ (by omega), if_neg (by omega)]; exact ih.old x (by omega)
      · rw [hset _ _ h0]; split
        · exact g1
        · exact ih.lo x h0 (by omega)
      · rw [hset _ _ h0]; dsimp only; split
        · exact g2
        · exact ih.hi x h0 (by omega)
      · obtain ⟨x, x0, x1, x2⟩ := ih.top (by omega)
        exact ⟨x, x0, by omega, by rw [hset _ _ x0, if_neg (by omega)]; exact x2⟩
/-- The labels of the components. -/
def labF (n : Nat) (E : List (List Int)) : List Int := (nmF (lbR (idL n) E) n).1
theorem lab_max {n : Nat} {E : List (List Int)} (hn : 0 < n) (hE : ∀ e ∈ E, EIn n e) :
    (labF n E).length = n ∧ ∃ m : Int, (∀ x ∈ labF n E, 0 ≤ x ∧ x ≤ m) ∧ m ∈ labF n E ∧ 0 ≤ m ∧ m < n ∧ (m + 1 + E.length = n ↔ effL (idL n) E) := by
  obtain ⟨r1, r2, r3⟩ := rc_run (E := E) (RI.id n) (M := idL n) (fun _ _ _ _ _ _ => Iff.rfl) (idL_len n) hE
  rw [rc_id n n (Nat.le_refl _)] at r2 r3
  have h := nm_run r1 n (Nat.le_refl _)
  have hnum := h.num
  unfold labF
  obtain ⟨x, x0, x1, x2⟩ := h.top hn
  have hx := h.lo x x0 x1
  have hle : rcL (lbR (idL n) E) n ≤ n := by
    unfold rcL
    exact Nat.le_trans (List.length_filter_le _ _) (by simp)
  have hl := h.len
  refine ⟨h.len, (nmF (lbR (idL n) E) n).2 - 1, fun y hy => ?_, ?_, by omega, by omega, ?_⟩
  · obtain ⟨k, hk, rfl⟩ := List.getElem_of_mem hy
    have e : geti (nmF (lbR (idL n) E) n).1 (k : Nat) = (nmF (lbR (idL n) E) n).1[k] := by simp [geti, List.getD_eq_getElem?_getD, List.getElem?_eq_getElem hk]
    have a1 := h.lo (k : Nat) (by omega) (by omega)
    have a2 := h.hi (k : Nat) (by omega) (by omega)
    omega
  · rw [← x2]
    have hk : x.toNat < (nmF (lbR (idL n) E) n).1.length := by omega
    simp only [geti, List.getD_eq_getElem?_getD, List.getElem?_eq_getElem hk, Option.getD_some]
    exact List.getElem_mem hk
  · rw [← r3]; omega
end Go.Proofs.Ytbalbiliejjnoaa
/-
  Labels of components, walked. Condition: edges of at most 40 vertices.
-/
namespace Go.Proofs.Ytbalbiliejjnoaa
open Go Go.RowKit
attribute [local irreducible] AWp AOps ResIs Ret1 QOp LOp COp AFnV AFn Imms LeE LeO
set_option maxHeartbeats 1000000
set_option linter.unusedSimpArgs false
set_option linter.unusedVariables false

/-- A merge that is under way. -/
def mgT (L : List Int) (a b : Int) (i : Nat) : List Int := mgL (L.take i) a b ++ L.drop i
theorem mgT_len (L : List Int) (a b : Int) (i : Nat) : (mgT L a b i).length = L.length := by
  unfold mgT; rw [List.length_append, mgL_len, List.length_take, List.length_drop]; omega
theorem mgT_at {L : List Int} {a b : Int} {i : Nat} (h : i < L.length) : geti (mgT L a b i) (i : Nat) = geti L (i : Nat) := by
  unfold mgT geti
  rw [List.getD_eq_getElem?_getD, List.getD_eq_getElem?_getD, List.getElem?_append_right (by rw [mgL_len, List.length_take]; omega), mgL_len, List.length_take, List.getElem?_drop]
  congr 2; omega
theorem mgT_eq {L : List Int} {a b : Int} {i : Nat} (h : i < L.length) : mgT L a b (i + 1) = (mgT L a b i).set i (if geti L (i : Nat) = b then a else geti L (i : Nat)) := by
  have e1 : L.take (i + 1) = L.take i ++ [geti L (i : Nat)] := take_geti h
  have e2 : L.drop i = geti L (i : Nat) :: L.drop (i + 1) := by rw [List.drop_eq_getElem_cons h]; simp [geti, List.getD_eq_getElem?_getD, List.getElem?_eq_getElem h]
  have e3 : (mgL (L.take i) a b).length = i := by rw [mgL_len, List.length_take]; omega
  unfold mgT
  rw [e1, e2]
  unfold mgL
  rw [List.map_append, List.append_assoc, List.set_append_right _ _ (by rw [List.length_map, List.length_take]; omega)]
  congr 1
  rw [List.length_map, List.length_take, show i - min i L.length = 0 by omega]
  rfl
theorem mgT_all (L : List Int) (a b : Int) : mgT L a b L.length = mgL L a b := by unfold mgT; rw [List.take_length, List.drop_length, List.append_nil]
theorem set_same {L : List Int} {i : Nat} : L.set i (geti L (i : Nat)) = L := by
  apply List.ext_getElem?
  intro k
  rw [List.getElem?_set]
  split
  · rename_i h; subst h
    split
    · rename_i h; simp [geti, List.getD_eq_getElem?_getD, List.getElem?_eq_getElem h]
    · rename_i h; rw [List.getElem?_eq_none (by omega)]
  · rfl
def idT (n i : Nat) : List Int := (List.range n).map fun (j : Nat) => if j < i then (j : Int) else 0
theorem idT_len (n i : Nat) : (idT n i).length = n := by simp [idT]
theorem idT_step (n i : Nat) : (idT n i).set i (i : Nat) = idT n (i + 1) := by
  apply List.ext_getElem?
  intro k
  rw [List.getElem?_set, idT_len]
  simp only [idT, List.getElem?_map]
  by_cases hk : k < n
  · rw [List.getElem?_range hk]
    by_cases e : i = k
    · subst e
      simp [hk]
    · simp only [e, if_false, Option.map_some]
      congr 1
      by_cases h1 : k < i
      · rw [if_pos h1, if_pos (by omega)]
      · rw [if_neg h1, if_neg (by omega)]
  · rw [List.getElem?_eq_none (by simpa using hk)]
    split
    · rw [if_neg (by omega)]; rfl
    · rfl
theorem idT_0 (n : Nat) : idT n 0 = List.replicate n 0 := by
  apply List.ext_getElem (by simp [idT])
  intro i h1 h2
  simp [idT]
theorem idT_n (n : Nat) : idT n n = idL n := by
  unfold idT idL
  apply List.map_congr_left
  intro x hx
  rw [if_pos (List.mem_range.1 hx)]

set_option maxHeartbeats 16000000 in
theorem labels_c (n : Nat) (E : List (List Int)) (hn : n ≤ 40) (hl : E.length ≤ 40) (hE : ∀ e ∈ E, EIn n e) : AFn Try.prog 64 [.i n, .intss E] (IsInts 2 (labF n E)) := by
  have hri : ∀ k, k ≤ E.length → RI n (lbR (idL n) (E.take k)) := fun k hk => (rc_run (RI.id n) (M := idL n) (fun _ _ _ _ _ _ => Iff.rfl) (idL_len n) (E := E.take k) fun e he => hE e (List.mem_of_mem_take he)).1
  (refine AFn.start Try.func64 Try.ntmps64 rfl (by kernel_rfl) fun hk => ?_; simp only [Env.start, enumF, List.length_cons, List.length_nil, Nat.reduceAdd, Nat.reduceSub, List.cons_append, List.nil_append])
  repeat' (first | (apply AOps.nil; try simp only [List.nil_append, List.cons_append, List.set_cons_zero, List.set_cons_succ, List.length_cons, List.length_nil, Nat.reduceAdd, AV.sh, AV.sh1, AV.sh0, AO.sh, List.map_cons, List.map_nil, Nat.zero_add, Nat.add_zero, setAll]) | (apply w_move; exact rfl; exact rfl) | (apply w_assign; exact rfl; exact rfl) | apply AWp.seq | apply AWp.region | apply AWp.block | (apply w_len; exact rfl; exact rfl; first | exact .ints _ | exact .intss _ | exact .sli rfl | exact .sls rfl | exact .slr rfl | exact .orow rfl | exact .nil) | omega | (apply w_mki; exact rfl; exact rfl; rotate_left 3; exact rfl; rotate_left 1))
  rw [Int.toNat_natCast, ← idT_0, idT_len]
  refine AWp.loop (ι := Nat) (fun i => ⟨104, [(1, .intss E), (5, .own 0), (17, .i n), (18, .i i)]⟩) (fun i => [.sli 2 (idT n i)]) (fun i => i ≤ n) (fun i => n - i) 0 (by omega) ⟨lee rfl (by (repeat (first | exact le_nil | refine le_eq rfl rfl ?_))), by (repeat (first | exact lo_nil | refine lo_eq rfl ?_)), rfl, rfl⟩ ?_
  intro i i0
  have il := idT_len n i
  have is := idT_step n i
  by_cases hi : i < n
  · generalize idT n i = L at *
    repeat' (first | (apply AOps.nil; try simp only [List.nil_append, List.cons_append, List.set_cons_zero, List.set_cons_succ, List.length_cons, List.length_nil, Nat.reduceAdd, AV.sh, AV.sh1, AV.sh0, AO.sh, List.map_cons, List.map_nil, Nat.zero_add, Nat.add_zero, setAll]) | (apply w_move; exact rfl; exact rfl) | (apply w_assign; exact rfl; exact rfl) | apply AWp.seq | apply AWp.region | ((apply AWp.condP; exact rfl) <;> intro h) | apply AWp.block | apply AWp.exit | apply AWp.skip | (apply w_len; exact rfl; exact rfl; first | exact .ints _ | exact .intss _ | exact .sli rfl | exact .sls rfl | exact .slr rfl | exact .orow rfl | exact .nil) | omega | ((first | apply w_lss | apply w_add | apply w_idx); iterate 3 exact rfl) | (apply w_idxo; exact rfl; exact rfl; (exact .sli rfl); exact rfl) | (apply w_sti; exact rfl; exact rfl; rotate_left 1; exact rfl; rotate_left 2) | (apply inI_of <;> omega))
    exact ⟨i + 1, by omega, by omega, by rw [← is]; exact ⟨lee rfl (by (repeat (first | exact le_nil | refine le_eq rfl rfl ?_))), by (repeat (first | exact lo_nil | refine lo_eq rfl ?_)), rfl, rfl⟩⟩
  have ei : i = n := by omega
  subst ei
  rw [idT_n] at il ⊢
  repeat' (first | (apply AOps.nil; try simp only [List.nil_append, List.cons_append, List.set_cons_zero, List.set_cons_succ, List.length_cons, List.length_nil, Nat.reduceAdd, AV.sh, AV.sh1, AV.sh0, AO.sh, List.map_cons, List.map_nil, Nat.zero_add, Nat.add_zero, setAll]) | (apply w_move; exact rfl; exact rfl) | (apply w_assign; exact rfl; exact rfl) | apply AWp.seq | apply AWp.region | ((apply AWp.condP; exact rfl) <;> intro h) | apply AWp.block | apply AWp.exit | apply AWp.skip | (apply w_len; exact rfl; exact rfl; first | exact .ints _ | exact .intss _ | exact .sli rfl | exact .sls rfl | exact .slr rfl | exact .orow rfl | exact .nil) | omega | ((apply w_lss); iterate 3 exact rfl))
  refine AWp.loop (ι := Nat) (fun k => ⟨104, [(5, .own 0), (26, .intss E), (27, .i E.length), (28, .i k)]⟩) (fun k => [.sli 2 (lbR (idL i) (E.take k))]) (fun k => k ≤ E.length) (fun k => E.length - k) 0 (by omega) ⟨lee rfl (by (repeat (first | exact le_nil | refine le_eq rfl rfl ?_))), by (repeat (first | exact lo_nil | refine lo_eq rfl ?_)), rfl, rfl⟩ ?_
  intro k k0
  have hr := hri k k0
  have rl := hr.len
  by_cases hk : k < E.length
  · obtain ⟨a1, a2, a3, a4⟩ := hE (gets E (k : Nat)) (gets_mem (by omega) (by omega))
    have et : lbR (idL i) (E.take (k + 1)) = mmL (lbR (idL i) (E.take k)) (gets E (k : Nat)) := by
      rw [List.take_succ_eq_append_getElem hk, lbR_app]; simp [gets, hk, lbR]
    have hx1 : ∀ x : Int, 0 ≤ x → x < i → 0 ≤ geti (lbR (idL i) (E.take k)) x := hr.lo
    rw [show mmL (lbR (idL i) (E.take k)) (gets E (k : Nat)) = mgL (lbR (idL i) (E.take k)) (min (geti (lbR (idL i) (E.take k)) (geti (gets E (k : Nat)) 0)) (geti (lbR (idL i) (E.take k)) (geti (gets E (k : Nat)) 1))) (max (geti (lbR (idL i) (E.take k)) (geti (gets E (k : Nat)) 0)) (geti (lbR (idL i) (E.take k)) (geti (gets E (k : Nat)) 1))) from rfl] at et
    generalize lbR (idL i) (E.take k) = L at *
    repeat' (first | (apply AOps.nil; try simp only [List.nil_append, List.cons_append, List.set_cons_zero, List.set_cons_succ, List.length_cons, List.length_nil, Nat.reduceAdd, AV.sh, AV.sh1, AV.sh0, AO.sh, List.map_cons, List.map_nil, Nat.zero_add, Nat.add_zero, setAll]) | (apply w_move; exact rfl; exact rfl) | (apply w_assign; exact rfl; exact rfl) | apply AWp.seq | apply AWp.region | ((apply AWp.condP; exact rfl) <;> intro h) | apply AWp.block | apply AWp.exit | apply AWp.skip | (apply w_len; exact rfl; exact rfl; first | exact .ints _ | exact .intss _ | exact .sli rfl | exact .sls rfl | exact .slr rfl | exact .orow rfl | exact .nil) | omega | ((first | apply w_lss | apply w_idx | apply w_ld); iterate 3 exact rfl) | ((first | apply w_idxs | apply w_lds); iterate 3 exact rfl))
    generalize gets E (k : Nat) = e at *
    obtain ⟨a, ea⟩ : ∃ a, a = min (geti L (geti e 0)) (geti L (geti e 1)) := ⟨_, rfl⟩
    obtain ⟨b, eb⟩ : ∃ b, b = max (geti L (geti e 0)) (geti L (geti e 1)) := ⟨_, rfl⟩
    have y1 := hr.lo _ a2 (by omega)
    have y2 := hr.hi _ a2 (by omega)
    have y3 := hr.lo (geti e 1) (by omega) a4
    have y4 := hr.hi (geti e 1) (by omega) a4
    have am : 0 ≤ a ∧ a < i := by omega
    refine AWp.regionG [] (by kernel_rfl) (envC := ⟨104, [(5, .own 0), (9, .i a), (10, .i b), (26, .intss E), (27, .i E.length), (28, .i k)]⟩) (osC := [.sli 2 L]) rfl rfl ?_ ?_
    · rw [ea, eb]
      repeat' (first | (apply AOps.nil; try simp only [List.nil_append, List.cons_append, List.set_cons_zero, List.set_cons_succ, List.length_cons, List.length_nil, Nat.reduceAdd, AV.sh, AV.sh1, AV.sh0, AO.sh, List.map_cons, List.map_nil, Nat.zero_add, Nat.add_zero, setAll]) | (apply w_move; exact rfl; exact rfl) | (apply w_assign; exact rfl; exact rfl) | (apply AAnyG.takeW; exact rfl; exact rfl; kernel_rfl; kernel_rfl) | (apply AAnyG.takeL; exact rfl; exact rfl; kernel_rfl) | (apply AAnyG.done; exact rfl) | omega | ((first | apply w_idx | apply w_ld | apply w_min | apply w_max); iterate 3 exact rfl) | (apply w_idxo; exact rfl; exact rfl; (exact .sli rfl); exact rfl) | (apply w_ldo; iterate 4 exact rfl))
      all_goals (apply Or.inl; refine ⟨lee rfl ?_, ?_, rfl, rfl⟩; (focus ((repeat (first | exact le_nil | refine le_eq rfl rfl ?_)); done)); (focus ((repeat (first | exact lo_nil | refine lo_eq rfl ?_)); done)))
    rw [← ea, ← eb] at et
    clear ea eb
    repeat' (first | (apply AOps.nil; try simp only [List.nil_append, List.cons_append, List.set_cons_zero, List.set_cons_succ, List.length_cons, List.length_nil, Nat.reduceAdd, AV.sh, AV.sh1, AV.sh0, AO.sh, List.map_cons, List.map_nil, Nat.zero_add, Nat.add_zero, setAll]) | (apply w_move; exact rfl; exact rfl) | apply AWp.seq | apply AWp.region | apply AWp.block | (apply w_len; exact rfl; exact rfl; first | exact .ints _ | exact .intss _ | exact .sli rfl | exact .sls rfl | exact .slr rfl | exact .orow rfl | exact .nil))
    rw [rl]
    refine AWp.loop (ι := Nat) (fun j => ⟨104, [(5, .own 0), (9, .i a), (10, .i b), (26, .intss E), (27, .i E.length), (28, .i k), (59, .i i), (60, .i j)]⟩) (fun j => [.sli 2 (mgT L a b j)]) (fun j => j ≤ i) (fun j => i - j) 0 (by omega) ⟨lee rfl (by (repeat (first | exact le_nil | refine le_eq rfl rfl ?_))), by (repeat (first | exact lo_nil | refine lo_eq rfl ?_)), rfl, rfl⟩ ?_
    intro j j0
    have ml := mgT_len L a b j
    by_cases hj : j < i
    · have m1 := mgT_at (L := L) (a := a) (b := b) (i := j) (by omega)
      have m2 := mgT_eq (L := L) (a := a) (b := b) (i := j) (by omega)
      rw [← m1] at m2
      generalize mgT L a b j = M at *
      have ej : geti M ((((j : Nat) : Int)).toNat : Nat) = geti M (j : Nat) := by rw [Int.toNat_natCast]
      by_cases hc : geti M (j : Nat) = b
      · rw [if_pos hc] at m2
        repeat' (first | (apply AOps.nil; try simp only [List.nil_append, List.cons_append, List.set_cons_zero, List.set_cons_succ, List.length_cons, List.length_nil, Nat.reduceAdd, AV.sh, AV.sh1, AV.sh0, AO.sh, List.map_cons, List.map_nil, Nat.zero_add, Nat.add_zero, setAll]) | (apply w_move; exact rfl; exact rfl) | (apply w_assign; exact rfl; exact rfl) | apply AWp.seq | apply AWp.region | ((apply AWp.condP; exact rfl) <;> intro h) | apply AWp.block | apply AWp.exit | apply AWp.skip | omega | ((first | apply w_lss | apply w_eql | apply w_add | apply w_idx | apply w_ld); iterate 3 exact rfl) | (apply w_idxo; exact rfl; exact rfl; (exact .sli rfl); exact rfl) | (apply w_ldo; iterate 4 exact rfl) | (apply w_sti; exact rfl; exact rfl; rotate_left 1; exact rfl; rotate_left 2) | (apply inI_of <;> omega))
        exact ⟨j + 1, by omega, by omega, by rw [m2]; exact ⟨lee rfl (by (repeat (first | exact le_nil | refine le_eq rfl rfl ?_))), by (repeat (first | exact lo_nil | refine lo_eq rfl ?_)), rfl, rfl⟩⟩
      · rw [if_neg hc, set_same] at m2
        repeat' (first | (apply AOps.nil; try simp only [List.nil_append, List.cons_append, List.set_cons_zero, List.set_cons_succ, List.length_cons, List.length_nil, Nat.reduceAdd, AV.sh, AV.sh1, AV.sh0, AO.sh, List.map_cons, List.map_nil, Nat.zero_add, Nat.add_zero, setAll]) | (apply w_move; exact rfl; exact rfl) | (apply w_assign; exact rfl; exact rfl) | apply AWp.seq | apply AWp.region | ((apply AWp.condP; exact rfl) <;> intro h) | apply AWp.block | apply AWp.exit | apply AWp.skip | omega | ((first | apply w_lss | apply w_eql | apply w_add | apply w_idx | apply w_ld); iterate 3 exact rfl) | (apply w_idxo; exact rfl; exact rfl; (exact .sli rfl); exact rfl) | (apply w_ldo; iterate 4 exact rfl) | (apply inI_of <;> omega))
        exact ⟨j + 1, by omega, by omega, by rw [m2]; exact ⟨lee rfl (by (repeat (first | exact le_nil | refine le_eq rfl rfl ?_))), by (repeat (first | exact lo_nil | refine lo_eq rfl ?_)), rfl, rfl⟩⟩
    · have ej : j = L.length := by omega
      rw [ej, mgT_all, ← et]
      repeat' (first | (apply AOps.nil; try simp only [List.nil_append, List.cons_append, List.set_cons_zero, List.set_cons_succ, List.length_cons, List.length_nil, Nat.reduceAdd, AV.sh, AV.sh1, AV.sh0, AO.sh, List.map_cons, List.map_nil, Nat.zero_add, Nat.add_zero, setAll]) | (apply w_move; exact rfl; exact rfl) | (apply w_assign; exact rfl; exact rfl) | apply AWp.seq | apply AWp.region | ((apply AWp.condP; exact rfl) <;> intro h) | apply AWp.block | apply AWp.exit | apply AWp.skip | omega | ((first | apply w_lss | apply w_add); iterate 3 exact rfl) | (apply inI_of <;> omega))
      exact ⟨k + 1, by omega, by omega, ⟨lee rfl (by (repeat (first | exact le_nil | refine le_eq rfl rfl ?_))), by (repeat (first | exact lo_nil | refine lo_eq rfl ?_)), rfl, rfl⟩⟩
  · have ek : k = E.length := by omega
    subst ek
    rw [List.take_length]
    rw [List.take_length] at hr rl
    have hnm := nm_run hr
    have hlab : labF i E = (nmF (lbR (idL i) E) i).1 := rfl
    have hrc : ∀ m, rcL (lbR (idL i) E) m ≤ m := fun m => by
      unfold rcL
      exact Nat.le_trans (List.length_filter_le _ _) (by simp)
    repeat' (first | (apply AOps.nil; try simp only [List.nil_append, List.cons_append, List.set_cons_zero, List.set_cons_succ, List.length_cons, List.length_nil, Nat.reduceAdd, AV.sh, AV.sh1, AV.sh0, AO.sh, List.map_cons, List.map_nil, Nat.zero_add, Nat.add_zero, setAll]) | (apply w_move; exact rfl; exact rfl) | (apply w_assign; exact rfl; exact rfl) | apply AWp.seq | apply AWp.region | ((apply AWp.condP; exact rfl) <;> intro h) | apply AWp.block | apply AWp.exit | apply AWp.skip | (apply w_len; exact rfl; exact rfl; first | exact .ints _ | exact .intss _ | exact .sli rfl | exact .sls rfl | exact .slr rfl | exact .orow rfl | exact .nil) | omega | ((apply w_lss); iterate 3 exact rfl))
    rw [rl]
    generalize lbR (idL i) E = L at *
    refine AWp.loop (ι := Nat) (fun j => ⟨104, [(5, .own 0), (12, .i (nmF L j).2), (76, .i i), (77, .i j)]⟩) (fun j => [.sli 2 (nmF L j).1]) (fun j => j ≤ i) (fun j => i - j) 0 (by omega) ⟨lee rfl (by (repeat (first | exact le_nil | refine le_eq rfl rfl ?_))), by (repeat (first | exact lo_nil | refine lo_eq rfl ?_)), rfl, rfl⟩ ?_
    intro j j0
    have hm := hnm j j0
    have m1 := hm.len
    have m2 := hm.num
    have m3 := hrc j
    by_cases hj : j < i
    · have m4 := hm.old (j : Nat) (Int.le_refl _)
      have m5 := hr.lo (j : Nat) (by omega) (by omega)
      have m6 := hr.hi (j : Nat) (by omega) (by omega)
      have es : nmF L (j + 1) = if geti (nmF L j).1 (j : Nat) = (j : Nat) then ((nmF L j).1.set j (nmF L j).2, (nmF L j).2 + 1) else ((nmF L j).1.set j (geti (nmF L j).1 (geti (nmF L j).1 (j : Nat))), (nmF L j).2) := rfl
      rw [← m4] at m5 m6
      generalize nmF L j = s at *
      obtain ⟨M, q⟩ := s
      simp only at m1 m2 m5 m6 es
      have ej : geti M ((((j : Nat) : Int)).toNat : Nat) = geti M (j : Nat) := by rw [Int.toNat_natCast]
      by_cases hc : geti M (j : Nat) = (j : Nat)
      · rw [if_pos hc] at es
        repeat' (first | (apply AOps.nil; try simp only [List.nil_append, List.cons_append, List.set_cons_zero, List.set_cons_succ, List.length_cons, List.length_nil, Nat.reduceAdd, AV.sh, AV.sh1, AV.sh0, AO.sh, List.map_cons, List.map_nil, Nat.zero_add, Nat.add_zero, setAll]) | (apply w_move; exact rfl; exact rfl) | (apply w_assign; exact rfl; exact rfl) | apply AWp.seq | apply AWp.region | ((apply AWp.condP; exact rfl) <;> intro h) | apply AWp.block | apply AWp.ret | apply AWp.exit | apply AWp.skip | omega | ((first | apply w_lss | apply w_eql | apply w_add | apply w_idx | apply w_ld); iterate 3 exact rfl) | (apply w_idxo; exact rfl; exact rfl; (exact .sli rfl); exact rfl) | (apply w_ldo; iterate 4 exact rfl) | (apply w_sti; exact rfl; exact rfl; rotate_left 1; exact rfl; rotate_left 2) | (apply inI_of <;> omega))
        exact ⟨j + 1, by omega, by omega, by rw [es]; exact ⟨lee rfl (by (repeat (first | exact le_nil | refine le_eq rfl rfl ?_))), by (repeat (first | exact lo_nil | refine lo_eq rfl ?_)), rfl, rfl⟩⟩
      · have n1 : 0 ≤ geti M (geti M (j : Nat)) := hm.lo (geti M (j : Nat)) m5 (by omega)
        have n2 : geti M (geti M (j : Nat)) < q := hm.hi (geti M (j : Nat)) m5 (by omega)
        have e9 : geti M ((geti M (((j : Nat) : Int).toNat : Nat)).toNat : Nat) = geti M (geti M (j : Nat)) := by rw [Int.toNat_natCast, Int.toNat_of_nonneg m5]
        rw [← e9] at n1 n2
        rw [if_neg hc, ← e9] at es
        repeat' (first | (apply AOps.nil; try simp only [List.nil_append, List.cons_append, List.set_cons_zero, List.set_cons_succ, List.length_cons, List.length_nil, Nat.reduceAdd, AV.sh, AV.sh1, AV.sh0, AO.sh, List.map_cons, List.map_nil, Nat.zero_add, Nat.add_zero, setAll]) | (apply w_move; exact rfl; exact rfl) | (apply w_assign; exact rfl; exact rfl) | apply AWp.seq | apply AWp.region | ((apply AWp.condP; exact rfl) <;> intro h) | apply AWp.block | apply AWp.ret | apply AWp.exit | apply AWp.skip | omega | ((first | apply w_lss | apply w_eql | apply w_add | apply w_idx | apply w_ld); iterate 3 exact rfl) | (apply w_idxo; exact rfl; exact rfl; (exact .sli rfl); exact rfl) | (apply w_ldo; iterate 4 exact rfl) | (apply w_sti; exact rfl; exact rfl; rotate_left 1; exact rfl; rotate_left 2) | (apply inI_of <;> omega))
        exact ⟨j + 1, by omega, by omega, by rw [es]; exact ⟨lee rfl (by (repeat (first | exact le_nil | refine le_eq rfl rfl ?_))), by (repeat (first | exact lo_nil | refine lo_eq rfl ?_)), rfl, rfl⟩⟩
    · have ej : j = i := by omega
      subst ej
      rw [← hlab] at m1 ⊢
      generalize labF j E = M at *
      repeat' (first | (apply AOps.nil; try simp only [List.nil_append, List.cons_append, List.set_cons_zero, List.set_cons_succ, List.length_cons, List.length_nil, Nat.reduceAdd, AV.sh, AV.sh1, AV.sh0, AO.sh, List.map_cons, List.map_nil, Nat.zero_add, Nat.add_zero, setAll]) | (apply w_move; exact rfl; exact rfl) | (apply w_assign; exact rfl; exact rfl) | apply AWp.seq | apply AWp.region | ((apply AWp.condP; exact rfl) <;> intro h) | apply AWp.block | apply AWp.ret | apply AWp.exit | apply AWp.skip | omega | ((apply w_lss); iterate 3 exact rfl))
      exact ⟨_, _, _, .v1 Try.results64 rfl, .sli rfl, rfl, rfl⟩
end Go.Proofs.Ytbalbiliejjnoaa
/-
  Whether a graph is one, walked: the program. No condition on the graph.
-/
namespace Go.Proofs.Ytbalbiliejjnoaa
open Go Go.RowKit
attribute [local irreducible] AWp AOps ResIs Ret1 QOp LOp COp AFnV AFn Imms LeE LeO
set_option maxHeartbeats 1000000
set_option linter.unusedSimpArgs false
set_option linter.unusedVariables false

/-- A graph of the program. -/
structure GOk (W : List Int) (E : List (List Int)) : Prop where
  n : 1 ≤ W.length ∧ W.length ≤ 40
  w : withinL W (-1000) 1000 = true
  row : ∀ e ∈ E, EIn W.length e
  srt : E.Pairwise lx
  eff : effL (idL W.length) E
theorem within_geti {W : List Int} (h : withinL W (-1000) 1000 = true) (v : Int) : -1000 ≤ geti W v ∧ geti W v ≤ 1000 := by
  unfold withinL at h
  simp only [geti, List.getD_eq_getElem?_getD]
  cases hx : W[v.toNat]? with
  | none => simp
  | some x =>
    have := List.all_eq_true.1 h x (List.mem_of_getElem? hx)
    simpa using this
theorem GOk.len {W : List Int} {E : List (List Int)} (h : GOk W E) : E.length < W.length := by
  obtain ⟨_, m, _, _, m0, _, hm⟩ := lab_max (n := W.length) (E := E) (by have := h.n; omega) h.row
  have := hm.2 h.eff
  omega
theorem GOk.gr {W : List Int} {E : List (List Int)} (h : GOk W E) : GrF W E :=
  ⟨h.n, within_geti h.w, foE_of h.row h.srt h.eff, by have := h.len; have := h.n; omega⟩
noncomputable def gok (W : List Int) (E : List (List Int)) : Bool := @decide (GOk W E) (Classical.propDecidable _)
theorem gok_iff {W : List Int} {E : List (List Int)} : gok W E = true ↔ GOk W E := by
  unfold gok; exact @decide_eq_true_iff _ (Classical.propDecidable _)
theorem gok_f {W : List Int} {E : List (List Int)} (h : ¬ GOk W E) : gok W E = false := by
  cases e : gok W E with
  | false => rfl
  | true => exact absurd (gok_iff.1 e) h
theorem gets_eq {E : List (List Int)} {k : Nat} (h : k < E.length) : E[k] = gets E (k : Nat) := by simp [gets, h]
theorem pw_snoc {E : List (List Int)} {k : Nat} (hk : k < E.length) : (E.take (k + 1)).Pairwise lx ↔ (E.take k).Pairwise lx ∧ (k = 0 ∨ lx (gets E ((k - 1 : Nat))) (gets E (k : Nat))) := by
  rw [List.take_succ_eq_append_getElem hk, List.pairwise_append, gets_eq hk]
  constructor
  · rintro ⟨h1, _, h3⟩
    refine ⟨h1, ?_⟩
    by_cases hz : k = 0
    · exact .inl hz
    · right
      refine h3 _ ?_ _ (by simp)
      rw [← gets_eq (by omega)]
      exact List.mem_take_iff_getElem.2 ⟨k - 1, by omega, rfl⟩
  · rintro ⟨h1, h2⟩
    refine ⟨h1, by simp, fun a ha b hb => ?_⟩
    rw [List.mem_singleton.1 hb]
    obtain ⟨j, hj, rfl⟩ := List.mem_take_iff_getElem.1 ha
    rcases h2 with h2 | h2
    · omega
    · by_cases e : j = k - 1
      · subst e; rw [gets_eq (by omega)]; exact h2
      · refine lx_tr ?_ h2
        have := List.pairwise_iff_getElem.1 h1 j (k - 1) (by rw [List.length_take]; omega) (by rw [List.length_take]; omega) (by omega)
        rw [List.getElem_take, List.getElem_take, gets_eq (k := k - 1) (by omega)] at this
        exact this
theorem pw_take {E : List (List Int)} (h : E.Pairwise lx) (k : Nat) : (E.take k).Pairwise lx := h.sublist (List.take_sublist _ _)
theorem maxL_eq : ∀ {xs : List Int} {m0 m : Int}, (∀ x ∈ xs, x ≤ m) → m0 ≤ m → (m ∈ xs ∨ m0 = m) → maxL xs m0 = m
  | [], m0, m, _, _, h => by rcases h with h | h; cases h; exact h
  | x :: xs, m0, m, h1, h2, h3 => by
    rw [maxL]
    refine maxL_eq (fun y hy => h1 y (by simp [hy])) (by have := h1 x (by simp); omega) ?_
    have := h1 x (by simp)
    rcases h3 with h3 | h3
    · rcases List.mem_cons.1 h3 with h3 | h3
      · right; omega
      · exact .inl h3
    · right; omega

set_option maxHeartbeats 16000000 in
theorem isGraph_c (W : List Int) (E : List (List Int)) : AFnV Try.prog 37 [.agg [.ints W, .intss E]] (.bool (gok W E)) := by
  (refine AFnV.start Try.func37 Try.ntmps37 rfl (by kernel_rfl) fun hk => ?_; simp only [Env.start, enumF, List.length_cons, List.length_nil, Nat.reduceAdd, Nat.reduceSub, List.cons_append, List.nil_append])
  have hwi := within_c W (-1000) 1000
  by_cases c0 : 1 ≤ W.length ∧ W.length ≤ 40 ∧ withinL W (-1000) 1000 = true ∧ E.length < W.length
  · obtain ⟨c1, c2, c3, c4⟩ := c0
    rw [c3] at hwi
    repeat' (first | (apply AOps.nil; try simp only [List.nil_append, List.cons_append, List.set_cons_zero, List.set_cons_succ, List.length_cons, List.length_nil, Nat.reduceAdd, AV.sh, AV.sh1, AV.sh0, AO.sh, List.map_cons, List.map_nil, Nat.zero_add, Nat.add_zero, setAll]) | ((apply AOps.splitP; exact rfl; exact rfl) <;> intro h) | (apply w_move; exact rfl; exact rfl) | (apply w_assign; exact rfl; exact rfl) | apply AWp.seq | apply AWp.region | ((apply AWp.condP; exact rfl) <;> intro h) | (apply AWp.condT; exact rfl) | apply AWp.block | apply AWp.ret | apply AWp.skip | (apply w_skip; exact rfl) | (apply w_pickT; exact rfl; exact rfl; exact rfl) | (apply w_pickF; exact rfl; exact rfl; exact rfl) | (apply w_len; exact rfl; exact rfl; first | exact .ints _ | exact .intss _ | exact .sli rfl | exact .sls rfl | exact .slr rfl | exact .orow rfl | exact .nil) | (apply w_call (hwi); exact rfl; exact rfl; focus ((repeat (first | exact im_nil | refine im_cons rfl (.val _) ?_ | refine im_cons rfl (.ints _) ?_)); done)) | omega | ((first | apply w_lss | apply w_gtr | apply w_geq | apply w_ld | apply w_fa); iterate 3 exact rfl) | ((first | apply w_not | apply w_boxa); iterate 2 exact rfl) | (apply w_ldb; iterate 5 exact rfl))
    refine AWp.loop (ι := Nat) (fun k => ⟨89, [(1, .optr 0 0), (3, .i W.length), (30, .intss E), (31, .i E.length), (32, .i k)]⟩) (fun _ => [.bx 29 [.ints W, .intss E]]) (fun k => k ≤ E.length ∧ (∀ e ∈ E.take k, EIn W.length e) ∧ (E.take k).Pairwise lx) (fun k => E.length - k) 0 ⟨by omega, by simp, by simp⟩ ⟨lee rfl (by (repeat (first | exact le_nil | refine le_eq rfl rfl ?_))), by (repeat (first | exact lo_nil | refine lo_eq rfl ?_)), rfl, rfl⟩ ?_
    rintro k ⟨k0, k1, k2⟩
    by_cases hk : k < E.length
    · have hsn := pw_snoc hk
      have hrow : ∀ f ∈ E.take (k + 1), EIn W.length f ∨ f = gets E (k : Nat) := fun f hf => by
        rw [List.take_succ_eq_append_getElem hk, gets_eq hk] at hf
        rcases List.mem_append.1 hf with hf | hf
        · exact .inl (k1 f hf)
        · exact .inr (List.mem_singleton.1 hf)
      have hmem : gets E (k : Nat) ∈ E := gets_mem (by omega) (by omega)
      by_cases he : EIn W.length (gets E (k : Nat))
      · have he' := he
        obtain ⟨e1, e2, e3, e4⟩ := he'
        by_cases hz : k = 0
        · subst hz
          repeat' (first | (apply AOps.nil; try simp only [List.nil_append, List.cons_append, List.set_cons_zero, List.set_cons_succ, List.length_cons, List.length_nil, Nat.reduceAdd, AV.sh, AV.sh1, AV.sh0, AO.sh, List.map_cons, List.map_nil, Nat.zero_add, Nat.add_zero, setAll]) | (apply w_move; exact rfl; exact rfl) | (apply w_assign; exact rfl; exact rfl) | apply AWp.seq | apply AWp.region | ((apply AWp.condP; exact rfl) <;> intro h) | apply AWp.block | apply AWp.exit | apply AWp.skip | omega | ((first | apply w_lss | apply w_idx | apply w_ld); iterate 3 exact rfl) | ((first | apply w_idxs | apply w_lds); iterate 3 exact rfl))
          refine AWp.regionQ (by kernel_rfl) (by kernel_rfl) ?_
          repeat' (first | (apply AOps.nil; try simp only [List.nil_append, List.cons_append, List.set_cons_zero, List.set_cons_succ, List.length_cons, List.length_nil, Nat.reduceAdd, AV.sh, AV.sh1, AV.sh0, AO.sh, List.map_cons, List.map_nil, Nat.zero_add, Nat.add_zero, setAll]) | ((apply AOps.splitP; exact rfl; exact rfl) <;> intro h) | (apply w_move; exact rfl; exact rfl) | (apply w_assign; exact rfl; exact rfl) | apply AWp.seq | apply AWp.region | ((apply AWp.condP; exact rfl) <;> intro h) | (apply AWp.condT; exact rfl) | (apply AWp.condF; exact rfl) | apply AWp.ret | apply AWp.skip | (apply w_skip; exact rfl) | (apply w_pickT; exact rfl; exact rfl; exact rfl) | (apply w_pickF; exact rfl; exact rfl; exact rfl) | (apply w_len; exact rfl; exact rfl; first | exact .ints _ | exact .intss _ | exact .sli rfl | exact .sls rfl | exact .slr rfl | exact .orow rfl | exact .nil) | omega | ((first | apply w_lss | apply w_gtr | apply w_geq | apply w_neq | apply w_add | apply w_idx | apply w_ld); iterate 3 exact rfl) | (apply inI_of <;> omega))
          all_goals try (exfalso; omega)
          exact ⟨1, ⟨by omega, fun f hf => (hrow f hf).elim id fun h => h ▸ he, hsn.2 ⟨k2, .inl rfl⟩⟩, by omega, ⟨lee rfl (by (repeat (first | exact le_nil | refine le_eq rfl rfl ?_))), by (repeat (first | exact lo_nil | refine lo_eq rfl ?_)), rfl, rfl⟩⟩
        · have hp1 : gets E (((k : Nat) : Int) - 1) = gets E ((k - 1 : Nat) : Int) := by congr 1; omega
          have hm1 : gets E ((k - 1 : Nat) : Int) ∈ E.take k := by
            rw [← gets_eq (by omega)]
            exact List.mem_take_iff_getElem.2 ⟨k - 1, by omega, rfl⟩
          have hcm := compare_c (gets E ((k - 1 : Nat) : Int)) (gets E (k : Nat)) (k1 _ hm1).1 e1
          rw [← hp1] at hcm
          by_cases hlx : lx (gets E ((k - 1 : Nat) : Int)) (gets E (k : Nat))
          · have hcv : cmpR (gets E (((k : Nat) : Int) - 1)) (gets E (k : Nat)) = -1 := by rw [hp1]; unfold cmpR; rw [if_pos hlx]
            rw [hcv] at hcm
            repeat' (first | (apply AOps.nil; try simp only [List.nil_append, List.cons_append, List.set_cons_zero, List.set_cons_succ, List.length_cons, List.length_nil, Nat.reduceAdd, AV.sh, AV.sh1, AV.sh0, AO.sh, List.map_cons, List.map_nil, Nat.zero_add, Nat.add_zero, setAll]) | (apply w_move; exact rfl; exact rfl) | (apply w_assign; exact rfl; exact rfl) | apply AWp.seq | apply AWp.region | ((apply AWp.condP; exact rfl) <;> intro h) | apply AWp.block | apply AWp.exit | apply AWp.skip | omega | ((first | apply w_lss | apply w_idx | apply w_ld); iterate 3 exact rfl) | ((first | apply w_idxs | apply w_lds); iterate 3 exact rfl))
            refine AWp.regionQ (by kernel_rfl) (by kernel_rfl) ?_
            repeat' (first | (apply AOps.nil; try simp only [List.nil_append, List.cons_append, List.set_cons_zero, List.set_cons_succ, List.length_cons, List.length_nil, Nat.reduceAdd, AV.sh, AV.sh1, AV.sh0, AO.sh, List.map_cons, List.map_nil, Nat.zero_add, Nat.add_zero, setAll]) | ((apply AOps.splitP; exact rfl; exact rfl) <;> intro h) | (apply w_move; exact rfl; exact rfl) | (apply w_assign; exact rfl; exact rfl) | apply AWp.seq | apply AWp.region | ((apply AWp.condP; exact rfl) <;> intro h) | (apply AWp.condT; exact rfl) | (apply AWp.condF; exact rfl) | apply AWp.ret | apply AWp.skip | (apply w_skip; exact rfl) | (apply w_pickT; exact rfl; exact rfl; exact rfl) | (apply w_pickF; exact rfl; exact rfl; exact rfl) | (apply w_len; exact rfl; exact rfl; first | exact .ints _ | exact .intss _ | exact .sli rfl | exact .sls rfl | exact .slr rfl | exact .orow rfl | exact .nil) | (apply w_call (hcm); exact rfl; exact rfl; focus ((repeat (first | exact im_nil | refine im_cons rfl (.ints _) ?_)); done)) | omega | ((first | apply w_lss | apply w_gtr | apply w_geq | apply w_neq | apply w_add | apply w_sub | apply w_idx | apply w_ld | apply w_fa); iterate 3 exact rfl) | ((first | apply w_idxs | apply w_lds); iterate 3 exact rfl) | (apply w_ldb; iterate 5 exact rfl) | (apply inI_of <;> omega))
            all_goals try (exfalso; omega)
            exact ⟨k + 1, ⟨by omega, fun f hf => (hrow f hf).elim id fun h => h ▸ he, hsn.2 ⟨k2, .inr hlx⟩⟩, by omega, ⟨lee rfl (by (repeat (first | exact le_nil | refine le_eq rfl rfl ?_))), by (repeat (first | exact lo_nil | refine lo_eq rfl ?_)), rfl, rfl⟩⟩
          · have hno : gok W E = false := gok_f fun h => by
              have := (hsn.1 (pw_take h.srt (k + 1))).2
              rcases this with h5 | h5
              · exact hz h5
              · exact hlx h5
            have hcv : 0 ≤ cmpR (gets E (((k : Nat) : Int) - 1)) (gets E (k : Nat)) ∧ cmpR (gets E (((k : Nat) : Int) - 1)) (gets E (k : Nat)) ≤ 1 := by
              rw [hp1]; unfold cmpR; rw [if_neg hlx]; split <;> omega
            repeat' (first | (apply AOps.nil; try simp only [List.nil_append, List.cons_append, List.set_cons_zero, List.set_cons_succ, List.length_cons, List.length_nil, Nat.reduceAdd, AV.sh, AV.sh1, AV.sh0, AO.sh, List.map_cons, List.map_nil, Nat.zero_add, Nat.add_zero, setAll]) | (apply w_move; exact rfl; exact rfl) | (apply w_assign; exact rfl; exact rfl) | apply AWp.seq | apply AWp.region | ((apply AWp.condP; exact rfl) <;> intro h) | apply AWp.block | apply AWp.exit | apply AWp.skip | omega | ((first | apply w_lss | apply w_idx | apply w_ld); iterate 3 exact rfl) | ((first | apply w_idxs | apply w_lds); iterate 3 exact rfl))
            refine AWp.regionQ (by kernel_rfl) (by kernel_rfl) ?_
            repeat' (first | (apply AOps.nil; try simp only [List.nil_append, List.cons_append, List.set_cons_zero, List.set_cons_succ, List.length_cons, List.length_nil, Nat.reduceAdd, AV.sh, AV.sh1, AV.sh0, AO.sh, List.map_cons, List.map_nil, Nat.zero_add, Nat.add_zero, setAll]) | ((apply AOps.splitP; exact rfl; exact rfl) <;> intro h) | (apply w_move; exact rfl; exact rfl) | (apply w_assign; exact rfl; exact rfl) | apply AWp.seq | apply AWp.region | ((apply AWp.condP; exact rfl) <;> intro h) | (apply AWp.condT; exact rfl) | (apply AWp.condF; exact rfl) | apply AWp.ret | apply AWp.skip | (apply w_skip; exact rfl) | (apply w_pickT; exact rfl; exact rfl; exact rfl) | (apply w_pickF; exact rfl; exact rfl; exact rfl) | (apply w_len; exact rfl; exact rfl; first | exact .ints _ | exact .intss _ | exact .sli rfl | exact .sls rfl | exact .slr rfl | exact .orow rfl | exact .nil) | (apply w_call (hcm); exact rfl; exact rfl; focus ((repeat (first | exact im_nil | refine im_cons rfl (.ints _) ?_)); done)) | omega | ((first | apply w_lss | apply w_gtr | apply w_geq | apply w_neq | apply w_sub | apply w_idx | apply w_ld | apply w_fa); iterate 3 exact rfl) | ((first | apply w_idxs | apply w_lds); iterate 3 exact rfl) | (apply w_ldb; iterate 5 exact rfl) | (apply inI_of <;> omega))
            all_goals try (exfalso; omega)
            all_goals exact .bool Try.results37 rfl hno.symm
      · have hno : gok W E = false := gok_f fun h => he (h.row _ hmem)
        unfold EIn at he
        repeat' (first | (apply AOps.nil; try simp only [List.nil_append, List.cons_append, List.set_cons_zero, List.set_cons_succ, List.length_cons, List.length_nil, Nat.reduceAdd, AV.sh, AV.sh1, AV.sh0, AO.sh, List.map_cons, List.map_nil, Nat.zero_add, Nat.add_zero, setAll]) | (apply w_move; exact rfl; exact rfl) | (apply w_assign; exact rfl; exact rfl) | apply AWp.seq | apply AWp.region | ((apply AWp.condP; exact rfl) <;> intro h) | apply AWp.block | apply AWp.exit | apply AWp.skip | omega | ((first | apply w_lss | apply w_idx | apply w_ld); iterate 3 exact rfl) | ((first | apply w_idxs | apply w_lds); iterate 3 exact rfl))
        refine AWp.regionQ (by kernel_rfl) (by kernel_rfl) ?_
        repeat' (first | (apply AOps.nil; try simp only [List.nil_append, List.cons_append, List.set_cons_zero, List.set_cons_succ, List.length_cons, List.length_nil, Nat.reduceAdd, AV.sh, AV.sh1, AV.sh0, AO.sh, List.map_cons, List.map_nil, Nat.zero_add, Nat.add_zero, setAll]) | ((apply AOps.splitP; exact rfl; exact rfl) <;> intro h) | (apply w_move; exact rfl; exact rfl) | (apply w_assign; exact rfl; exact rfl) | apply AWp.seq | apply AWp.region | ((apply AWp.condP; exact rfl) <;> intro h) | (apply AWp.condT; exact rfl) | apply AWp.ret | apply AWp.skip | (apply w_skip; exact rfl) | (apply w_pickT; exact rfl; exact rfl; exact rfl) | (apply w_pickF; exact rfl; exact rfl; exact rfl) | (apply w_len; exact rfl; exact rfl; first | exact .ints _ | exact .intss _ | exact .sli rfl | exact .sls rfl | exact .slr rfl | exact .orow rfl | exact .nil) | omega | ((first | apply w_lss | apply w_geq | apply w_neq | apply w_idx | apply w_ld); iterate 3 exact rfl))
        all_goals try (exfalso; omega)
        all_goals exact .bool Try.results37 rfl hno.symm
    · have ek : k = E.length := by omega
      subst ek
      rw [List.take_length] at k1 k2
      obtain ⟨ll, m, hm1, hm2, hm3, hm4, hm5⟩ := lab_max (by omega) k1
      have hlab := labels_c W.length E c2 (by omega) k1
      have hmx : maxL (labF W.length E) (geti (labF W.length E) 0) = m := maxL_eq (fun x hx => (hm1 x hx).2) (hm1 _ (geti_mem (by omega) (by omega))).2 (.inl hm2)
      have hmax := slicesMax_c (labF W.length E) (by omega) (by omega)
      rw [hmx] at hmax
      have hres : gok W E = decide (m + 1 + (E.length : Int) = W.length) := by
        rw [Bool.eq_iff_iff, gok_iff, decide_eq_true_iff, hm5]
        exact ⟨fun h => h.eff, fun h => ⟨⟨c1, c2⟩, c3, k1, k2, h⟩⟩
      generalize labF W.length E = L at *
      repeat' (first | (apply AOps.nil; try simp only [List.nil_append, List.cons_append, List.set_cons_zero, List.set_cons_succ, List.length_cons, List.length_nil, Nat.reduceAdd, AV.sh, AV.sh1, AV.sh0, AO.sh, List.map_cons, List.map_nil, Nat.zero_add, Nat.add_zero, setAll]) | (apply w_move; exact rfl; exact rfl) | (apply w_assign; exact rfl; exact rfl) | apply AWp.seq | apply AWp.region | ((apply AWp.condP; exact rfl) <;> intro h) | apply AWp.block | apply AWp.ret | apply AWp.exit | apply AWp.skip | (apply w_len; exact rfl; exact rfl; first | exact .ints _ | exact .intss _ | exact .sli rfl | exact .sls rfl | exact .slr rfl | exact .orow rfl | exact .nil) | (apply w_callm (hlab); (focus ((repeat (first | exact im_nil | refine im_cons rfl (.val _) ?_ | refine im_cons rfl (.intss _) ?_)); done)); rintro r os0 ⟨rfl, rfl⟩; try simp only [List.nil_append, List.cons_append, List.set_cons_zero, List.set_cons_succ, List.length_cons, List.length_nil, Nat.reduceAdd, AV.sh, AV.sh1, AV.sh0, AO.sh, List.map_cons, List.map_nil, Nat.zero_add, Nat.add_zero, setAll]) | (apply w_call (hmax); exact rfl; exact rfl; focus ((repeat (first | exact im_nil | refine im_cons rfl (.sli rfl) ?_)); done)) | omega | ((first | apply w_lss | apply w_eql | apply w_add | apply w_ld | apply w_fa); iterate 3 exact rfl) | (apply w_ldb; iterate 5 exact rfl) | (apply inI_of <;> omega))
      all_goals exact .bool Try.results37 rfl hres.symm
  · have hno : gok W E = false := gok_f fun h => c0 ⟨h.n.1, h.n.2, h.w, h.len⟩
    repeat' (first | (apply AOps.nil; try simp only [List.nil_append, List.cons_append, List.set_cons_zero, List.set_cons_succ, List.length_cons, List.length_nil, Nat.reduceAdd, AV.sh, AV.sh1, AV.sh0, AO.sh, List.map_cons, List.map_nil, Nat.zero_add, Nat.add_zero, setAll]) | ((apply AOps.splitP; exact rfl; exact rfl) <;> intro h) | (apply w_move; exact rfl; exact rfl) | (apply w_assign; exact rfl; exact rfl) | apply AWp.seq | apply AWp.region | ((apply AWp.condP; exact rfl) <;> intro h) | (apply AWp.condT; exact rfl) | apply AWp.block | apply AWp.ret | apply AWp.skip | (apply w_skip; exact rfl) | (apply w_pickT; exact rfl; exact rfl; exact rfl) | (apply w_pickF; exact rfl; exact rfl; exact rfl) | (apply w_len; exact rfl; exact rfl; first | exact .ints _ | exact .intss _ | exact .sli rfl | exact .sls rfl | exact .slr rfl | exact .orow rfl | exact .nil) | (apply w_call (hwi); exact rfl; exact rfl; focus ((repeat (first | exact im_nil | refine im_cons rfl (.val _) ?_ | refine im_cons rfl (.ints _) ?_)); done)) | ((first | apply w_lss | apply w_gtr | apply w_geq | apply w_ld | apply w_fa); iterate 3 exact rfl) | ((first | apply w_not | apply w_boxa); iterate 2 exact rfl) | (apply w_ldb; iterate 5 exact rfl) | ((apply AOps.splitB; exact rfl; exact rfl) <;> intro h))
    all_goals first | exact .bool Try.results37 rfl hno.symm | (exfalso; refine c0 ⟨by omega, by omega, ?_, by omega⟩; simp_all; done)
end Go.Proofs.Ytbalbiliejjnoaa
/-
  Whether a graph is one, walked: the reference. No condition on the graph.
-/
namespace Go.Proofs.Ytbalbiliejjnoaa
open Go Go.RowKit
attribute [local irreducible] AWp AOps ResIs Ret1 QOp LOp COp AFnV AFn Imms LeE LeO
set_option maxHeartbeats 1000000
set_option linter.unusedSimpArgs false
set_option linter.unusedVariables false

def less2 (a b : List Int) : Bool := decide (geti a 0 < geti b 0 ∨ (geti a 0 = geti b 0 ∧ geti a 1 < geti b 1))
theorem l01Less_c (a b : List Int) (ha : a.length = 2) (hb : b.length = 2) : AFnV Try.prog 58 [.ints a, .ints b] (.bool (less2 a b)) := by
  (refine AFnV.start Try.func58 Try.ntmps58 rfl (by kernel_rfl) fun hk => ?_; simp only [Env.start, enumF, List.length_cons, List.length_nil, Nat.reduceAdd, Nat.reduceSub, List.cons_append, List.nil_append])
  repeat' (first | (apply AOps.nil; try simp only [List.nil_append, List.cons_append, List.set_cons_zero, List.set_cons_succ, List.length_cons, List.length_nil, Nat.reduceAdd, AV.sh, AV.sh1, AV.sh0, AO.sh, List.map_cons, List.map_nil, Nat.zero_add, Nat.add_zero, setAll]) | (apply w_assign; exact rfl; exact rfl) | apply AWp.seq | apply AWp.region | apply AWp.block)
  refine AWp.loop (ι := Nat) (fun i => ⟨41, [(0, .ints a), (1, .ints b), (5, .i i)]⟩) (fun _ => []) (fun i => i ≤ 2 ∧ (1 ≤ i → geti a 0 = geti b 0) ∧ (2 ≤ i → geti a 1 = geti b 1)) (fun i => 2 - i) 0 ⟨by omega, fun h => by omega, fun h => by omega⟩ ⟨lee rfl (by (repeat (first | exact le_nil | refine le_eq rfl rfl ?_))), by (repeat (exact lo_nil)), rfl, rfl⟩ ?_
  rintro i ⟨h0, h1, h2⟩
  rcases (show i = 0 ∨ i = 1 ∨ i = 2 by omega) with rfl | rfl | rfl
  all_goals repeat' (first | (apply AOps.nil; try simp only [List.nil_append, List.cons_append, List.set_cons_zero, List.set_cons_succ, List.length_cons, List.length_nil, Nat.reduceAdd, AV.sh, AV.sh1, AV.sh0, AO.sh, List.map_cons, List.map_nil, Nat.zero_add, Nat.add_zero, setAll]) | ((apply AOps.splitP; exact rfl; exact rfl) <;> intro h) | (apply w_move; exact rfl; exact rfl) | (apply w_assign; exact rfl; exact rfl) | apply AWp.seq | apply AWp.region | ((apply AWp.condP; exact rfl) <;> intro h) | (apply AWp.condF; exact rfl) | apply AWp.block | apply AWp.ret | apply AWp.exit | apply AWp.skip | (apply AWp.regionQ; kernel_rfl; kernel_rfl) | (apply w_skip; exact rfl) | (apply w_pickT; exact rfl; exact rfl; exact rfl) | (apply w_pickF; exact rfl; exact rfl; exact rfl) | (apply w_len; exact rfl; exact rfl; first | exact .ints _ | exact .intss _ | exact .sli rfl | exact .sls rfl | exact .slr rfl | exact .orow rfl | exact .nil) | ((first | apply w_lss | apply w_neq | apply w_add | apply w_idx | apply w_ld); iterate 3 exact rfl) | (apply inI_of <;> omega) | omega)
  all_goals try simp only [Int.natCast_zero, Int.natCast_one] at *
  all_goals first
    | exact ⟨1, ⟨by omega, fun _ => by omega, fun h => by omega⟩, by omega, ⟨lee rfl (by (repeat (first | exact le_nil | refine le_eq rfl rfl ?_))), by (repeat (exact lo_nil)), rfl, rfl⟩⟩
    | exact ⟨2, ⟨by omega, fun _ => by omega, fun _ => by omega⟩, by omega, ⟨lee rfl (by (repeat (first | exact le_nil | refine le_eq rfl rfl ?_))), by (repeat (exact lo_nil)), rfl, rfl⟩⟩
    | (refine .bool Try.results58 rfl ?_
       unfold less2
       rw [Bool.eq_iff_iff, decide_eq_true_iff, decide_eq_true_iff]
       omega)

def mgR : List Int → List (List Int) → List Int
  | L, [] => L
  | L, e :: E => mgR (mgL L (geti L (geti e 0)) (geti L (geti e 1))) E
theorem mgR_app : ∀ (A B : List (List Int)) (L : List Int), mgR L (A ++ B) = mgR (mgR L A) B
  | [], _, _ => rfl
  | _ :: A, B, L => mgR_app A B _
theorem mgR_len : ∀ (A : List (List Int)) (L : List Int), (mgR L A).length = L.length
  | [], _ => rfl
  | _ :: A, L => by rw [mgR, mgR_len A, mgL_len]
theorem effL_app : ∀ (A B : List (List Int)) (L : List Int), effL L (A ++ B) ↔ effL L A ∧ effL (mgR L A) B
  | [], _, _ => by simp [effL, mgR]
  | e :: A, B, L => by
    rw [List.cons_append, effL, effL, mgR, effL_app A B, and_assoc]
theorem mgR_rng {n : Nat} : ∀ {A : List (List Int)} {L : List Int}, L.length = n → (∀ x ∈ L, 0 ≤ x ∧ x < n) → (∀ e ∈ A, EIn n e) → ∀ x ∈ mgR L A, 0 ≤ x ∧ x < n
  | [], L, _, h, _ => h
  | e :: A, L, hl, h, hA => by
    obtain ⟨_, e2, e3, e4⟩ := hA e (by simp)
    rw [mgR]
    refine mgR_rng (by rw [mgL_len]; exact hl) (fun x hx => ?_) fun f hf => hA f (by simp [hf])
    unfold mgL at hx
    obtain ⟨y, hy, rfl⟩ := List.mem_map.1 hx
    split
    · exact h _ (geti_mem e2 (by omega))
    · exact h y hy
theorem idL_rng (n : Nat) : ∀ x ∈ idL n, 0 ≤ x ∧ x < n := fun x hx => by
  unfold idL at hx
  obtain ⟨k, hk, rfl⟩ := List.mem_map.1 hx
  have := List.mem_range.1 hk
  omega
theorem idL_succ (n : Nat) : idL (n + 1) = idL n ++ [(n : Int)] := by unfold idL; rw [List.range_succ, List.map_append]; rfl
theorem lessLx (a b : List Int) : less2 a b = true ↔ lx a b := by unfold less2 lx; exact decide_eq_true_iff

set_option maxHeartbeats 32000000 in
theorem l11Is_c (W : List Int) (E : List (List Int)) : AFnV Try.prog 35 [.agg [.ints W, .intss E]] (.bool (gok W E)) := by
  (refine AFnV.start Try.func35 Try.ntmps35 rfl (by kernel_rfl) fun hk => ?_; simp only [Env.start, enumF, List.length_cons, List.length_nil, Nat.reduceAdd, Nat.reduceSub, List.cons_append, List.nil_append])
  by_cases c0 : 1 ≤ W.length ∧ W.length ≤ 40
  case neg =>
    have hno : gok W E = false := gok_f fun h => c0 h.n
    repeat' (first | (apply AOps.nil; try simp only [List.nil_append, List.cons_append, List.set_cons_zero, List.set_cons_succ, List.length_cons, List.length_nil, Nat.reduceAdd, AV.sh, AV.sh1, AV.sh0, AO.sh, List.map_cons, List.map_nil, Nat.zero_add, Nat.add_zero, setAll]) | ((apply AOps.splitP; exact rfl; exact rfl) <;> intro h) | (apply w_move; exact rfl; exact rfl) | (apply w_assign; exact rfl; exact rfl) | apply AWp.seq | apply AWp.region | ((apply AWp.condP; exact rfl) <;> intro h) | (apply AWp.condT; exact rfl) | apply AWp.block | apply AWp.ret | apply AWp.skip | (apply w_skip; exact rfl) | (apply w_pickT; exact rfl; exact rfl; exact rfl) | (apply w_pickF; exact rfl; exact rfl; exact rfl) | (apply w_len; exact rfl; exact rfl; first | exact .ints _ | exact .intss _ | exact .sli rfl | exact .sls rfl | exact .slr rfl | exact .orow rfl | exact .nil) | omega | ((first | apply w_lss | apply w_gtr | apply w_ld | apply w_fa); iterate 3 exact rfl) | ((apply w_boxa); iterate 2 exact rfl) | (apply w_ldb; iterate 5 exact rfl))
    all_goals try (exfalso; omega)
    all_goals try exact .bool Try.results35 rfl hno.symm
  obtain ⟨c1, c2⟩ := c0
  repeat' (first | (apply AOps.nil; try simp only [List.nil_append, List.cons_append, List.set_cons_zero, List.set_cons_succ, List.length_cons, List.length_nil, Nat.reduceAdd, AV.sh, AV.sh1, AV.sh0, AO.sh, List.map_cons, List.map_nil, Nat.zero_add, Nat.add_zero, setAll]) | ((apply AOps.splitP; exact rfl; exact rfl) <;> intro h) | (apply w_move; exact rfl; exact rfl) | (apply w_assign; exact rfl; exact rfl) | apply AWp.seq | apply AWp.region | ((apply AWp.condP; exact rfl) <;> intro h) | (apply AWp.condT; exact rfl) | apply AWp.block | apply AWp.ret | apply AWp.skip | (apply w_skip; exact rfl) | (apply w_pickT; exact rfl; exact rfl; exact rfl) | (apply w_pickF; exact rfl; exact rfl; exact rfl) | (apply w_len; exact rfl; exact rfl; first | exact .ints _ | exact .intss _ | exact .sli rfl | exact .sls rfl | exact .slr rfl | exact .orow rfl | exact .nil) | omega | ((first | apply w_lss | apply w_gtr | apply w_ld | apply w_fa); iterate 3 exact rfl) | ((apply w_boxa); iterate 2 exact rfl) | (apply w_ldb; iterate 5 exact rfl))
  refine AWp.loop (ι := Nat) (fun i => ⟨133, [(1, .optr 0 0), (3, .i W.length), (4, .i i)]⟩) (fun _ => [.bx 29 [.ints W, .intss E]]) (fun i => i ≤ W.length ∧ withinL (W.take i) (-1000) 1000 = true) (fun i => W.length - i) 0 ⟨by omega, rfl⟩ ⟨lee rfl (by (repeat (first | exact le_nil | refine le_eq rfl rfl ?_))), by (repeat (first | exact lo_nil | refine lo_eq rfl ?_)), rfl, rfl⟩ ?_
  rintro i ⟨i0, i1⟩
  by_cases hi : i < W.length
  · have hin := l01In_c (geti W (i : Nat)) (-1000) 1000
    have hst := withinL_snoc W (-1000) 1000 (i : Nat) (by omega) (by omega)
    rw [show ((i : Nat) : Int).toNat = i from rfl, show (((i : Nat) : Int) + 1).toNat = i + 1 from rfl, i1, Bool.true_and] at hst
    cases hc : decide (-1000 ≤ geti W (i : Nat) ∧ geti W (i : Nat) ≤ 1000) with
    | true =>
      rw [hc] at hin hst
      repeat' (first | (apply AOps.nil; try simp only [List.nil_append, List.cons_append, List.set_cons_zero, List.set_cons_succ, List.length_cons, List.length_nil, Nat.reduceAdd, AV.sh, AV.sh1, AV.sh0, AO.sh, List.map_cons, List.map_nil, Nat.zero_add, Nat.add_zero, setAll]) | (apply w_move; exact rfl; exact rfl) | (apply w_assign; exact rfl; exact rfl) | apply AWp.seq | apply AWp.region | ((apply AWp.condP; exact rfl) <;> intro h) | (apply AWp.condF; exact rfl) | apply AWp.block | apply AWp.exit | apply AWp.skip | (apply w_len; exact rfl; exact rfl; first | exact .ints _ | exact .intss _ | exact .sli rfl | exact .sls rfl | exact .slr rfl | exact .orow rfl | exact .nil) | (apply w_call (hin); exact rfl; exact rfl; focus ((repeat (first | exact im_nil | refine im_cons rfl (.val _) ?_)); done)) | omega | ((first | apply w_lss | apply w_add | apply w_idx | apply w_ld | apply w_fa); iterate 3 exact rfl) | ((apply w_not); iterate 2 exact rfl) | (apply w_ldb; iterate 5 exact rfl) | (apply inI_of <;> omega))
      exact ⟨i + 1, ⟨by omega, hst⟩, by omega, ⟨lee rfl (by (repeat (first | exact le_nil | refine le_eq rfl rfl ?_))), by (repeat (first | exact lo_nil | refine lo_eq rfl ?_)), rfl, rfl⟩⟩
    | false =>
      rw [hc] at hin
      have hno : gok W E = false := gok_f fun h => by
        have := within_geti h.w (i : Nat)
        exact (of_decide_eq_false hc) this
      repeat' (first | (apply AOps.nil; try simp only [List.nil_append, List.cons_append, List.set_cons_zero, List.set_cons_succ, List.length_cons, List.length_nil, Nat.reduceAdd, AV.sh, AV.sh1, AV.sh0, AO.sh, List.map_cons, List.map_nil, Nat.zero_add, Nat.add_zero, setAll]) | (apply w_move; exact rfl; exact rfl) | (apply w_assign; exact rfl; exact rfl) | apply AWp.seq | apply AWp.region | ((apply AWp.condP; exact rfl) <;> intro h) | (apply AWp.condT; exact rfl) | apply AWp.block | apply AWp.ret | apply AWp.exit | apply AWp.skip | (apply w_len; exact rfl; exact rfl; first | exact .ints _ | exact .intss _ | exact .sli rfl | exact .sls rfl | exact .slr rfl | exact .orow rfl | exact .nil) | (apply w_call (hin); exact rfl; exact rfl; focus ((repeat (first | exact im_nil | refine im_cons rfl (.val _) ?_)); done)) | omega | ((first | apply w_lss | apply w_idx | apply w_ld | apply w_fa); iterate 3 exact rfl) | ((apply w_not); iterate 2 exact rfl) | (apply w_ldb; iterate 5 exact rfl))
      all_goals exact .bool Try.results35 rfl hno.symm
  have ei : i = W.length := by omega
  subst ei
  rw [List.take_length] at i1
  repeat' (first | (apply AOps.nil; try simp only [List.nil_append, List.cons_append, List.set_cons_zero, List.set_cons_succ, List.length_cons, List.length_nil, Nat.reduceAdd, AV.sh, AV.sh1, AV.sh0, AO.sh, List.map_cons, List.map_nil, Nat.zero_add, Nat.add_zero, setAll]) | (apply w_move; exact rfl; exact rfl) | (apply w_assign; exact rfl; exact rfl) | apply AWp.seq | apply AWp.region | ((apply AWp.condP; exact rfl) <;> intro h) | apply AWp.block | apply AWp.exit | apply AWp.skip | (apply w_len; exact rfl; exact rfl; first | exact .ints _ | exact .intss _ | exact .sli rfl | exact .sls rfl | exact .slr rfl | exact .orow rfl | exact .nil) | omega | ((first | apply w_lss | apply w_ld | apply w_fa); iterate 3 exact rfl) | (apply w_ldb; iterate 5 exact rfl) | (apply w_bs0; iterate 1 exact rfl))
  refine AWp.loop (ι := Nat) (fun i => ⟨133, [(1, .optr 0 0), (3, .i W.length), (5, .own 1), (6, .i i)]⟩) (fun i => [.bx 29 [.ints W, .intss E], .sli 2 (idL i)]) (fun i => i ≤ W.length) (fun i => W.length - i) 0 (by omega) ⟨lee rfl (by (repeat (first | exact le_nil | refine le_eq rfl rfl ?_))), by (repeat (first | exact lo_nil | refine lo_eq rfl ?_)), rfl, rfl⟩ ?_
  intro i i0
  have il := idL_len i
  have is := idL_succ i
  by_cases hi : i < W.length
  · have hbl : ((idL i).length + [(i : Int)].length) * 8 ≤ 140737488355328 := by
      simp only [List.length_cons, List.length_nil]; omega
    generalize idL i = L at *
    repeat' (first | (apply AOps.nil; try simp only [List.nil_append, List.cons_append, List.set_cons_zero, List.set_cons_succ, List.length_cons, List.length_nil, Nat.reduceAdd, AV.sh, AV.sh1, AV.sh0, AO.sh, List.map_cons, List.map_nil, Nat.zero_add, Nat.add_zero, setAll]) | (apply w_move; exact rfl; exact rfl) | (apply w_assign; exact rfl; exact rfl) | apply AWp.seq | apply AWp.region | ((apply AWp.condP; exact rfl) <;> intro h) | apply AWp.block | apply AWp.exit | apply AWp.skip | omega | ((first | apply w_lss | apply w_add); iterate 3 exact rfl) | ((apply w_bs1); iterate 2 exact rfl) | (apply w_app; exact rfl; exact rfl; exact rfl; exact rfl; (exact .sli rfl); rotate_left 1; simp only [Env.mp, List.map_cons, List.map_nil, List.set_cons_zero, List.set_cons_succ, AV.kill, AV.kill1, AO.kill, AV.noRow, AV.noRow1, AO.via, reduceIte, Nat.reduceEqDiff, Nat.reduceLT, Env.up, Nat.zero_ne_one, Nat.one_ne_zero, Nat.reduceAdd, List.cons_append, List.nil_append]; rotate_left 1) | (apply inI_of <;> omega))
    exact ⟨i + 1, by omega, by omega, ⟨lee rfl (by (repeat (first | exact le_nil | refine le_eq rfl rfl ?_))), by (repeat (first | exact lo_nil | refine lo_eq rfl ?_ | refine lo_eq (congrArg (AO.sli _) (is.symm)) ?_)), rfl, rfl⟩⟩
  have ei : i = W.length := by omega
  subst ei
  repeat' (first | (apply AOps.nil; try simp only [List.nil_append, List.cons_append, List.set_cons_zero, List.set_cons_succ, List.length_cons, List.length_nil, Nat.reduceAdd, AV.sh, AV.sh1, AV.sh0, AO.sh, List.map_cons, List.map_nil, Nat.zero_add, Nat.add_zero, setAll]) | (apply w_move; exact rfl; exact rfl) | (apply w_assign; exact rfl; exact rfl) | apply AWp.seq | apply AWp.region | ((apply AWp.condP; exact rfl) <;> intro h) | apply AWp.block | apply AWp.exit | apply AWp.skip | omega | ((apply w_lss); iterate 3 exact rfl))
  refine AWp.loop (ι := Nat) (fun k => ⟨133, [(1, .optr 0 0), (3, .i W.length), (5, .own 1), (7, .i k)]⟩) (fun k => [.bx 29 [.ints W, .intss E], .sli 2 (mgR (idL W.length) (E.take k))]) (fun k => k ≤ E.length ∧ (∀ e ∈ E.take k, EIn W.length e) ∧ (E.take k).Pairwise lx ∧ effL (idL W.length) (E.take k)) (fun k => E.length - k) 0 ⟨by omega, by simp, by simp, trivial⟩ ⟨lee rfl (by (repeat (first | exact le_nil | refine le_eq rfl rfl ?_))), by (repeat (first | exact lo_nil | refine lo_eq rfl ?_)), rfl, rfl⟩ ?_
  rintro k ⟨k0, k1, k2, k3⟩
  by_cases hk : k < E.length
  · have hkn : k + 1 ≤ W.length := by
      obtain ⟨_, m, _, _, m0, _, hm⟩ := lab_max (n := W.length) (E := E.take k) (by omega) k1
      have := hm.2 k3
      rw [List.length_take] at this; omega
    have hsn := pw_snoc hk
    have hrow : ∀ f ∈ E.take (k + 1), EIn W.length f ∨ f = gets E (k : Nat) := fun f hf => by
      rw [List.take_succ_eq_append_getElem hk, gets_eq hk] at hf
      rcases List.mem_append.1 hf with hf | hf
      · exact .inl (k1 f hf)
      · exact .inr (List.mem_singleton.1 hf)
    have hmem : gets E (k : Nat) ∈ E := gets_mem (by omega) (by omega)
    have hml : (mgR (idL W.length) (E.take k)).length = W.length := by rw [mgR_len, idL_len]
    have hmr := mgR_rng (idL_len W.length) (idL_rng W.length) k1
    have het := effL_app (E.take k) [gets E (k : Nat)] (idL W.length)
    have hmt := mgR_app (E.take k) [gets E (k : Nat)] (idL W.length)
    have ets : E.take k ++ [gets E (k : Nat)] = E.take (k + 1) := by rw [List.take_succ_eq_append_getElem hk, gets_eq hk]
    rw [ets] at het hmt
    rw [mgR, mgR] at hmt
    have hi0 := l01In_c (geti (gets E (k : Nat)) 0) 0 ((W.length : Int) - 1)
    have hi1 := l01In_c (geti (gets E (k : Nat)) 1) 0 ((W.length : Int) - 1)
    by_cases he : EIn W.length (gets E (k : Nat))
    · obtain ⟨e1, e2, e3, e4⟩ := id he
      rw [decide_eq_true (by omega)] at hi0 hi1
      have hdp : ∀ h : GOk W E, effL (idL W.length) (E.take (k + 1)) := fun h => by
        have := h.eff
        rw [← List.take_append_drop (k + 1) E, effL_app] at this
        exact this.1
      have hrw : ∀ f ∈ E.take (k + 1), EIn W.length f := fun f hf => (hrow f hf).elim id fun h => h ▸ he
      -- the order
      by_cases hord : k = 0 ∨ lx (gets E ((k - 1 : Nat) : Int)) (gets E (k : Nat))
      case neg =>
        have hz : ¬ k = 0 := fun h => hord (.inl h)
        have hp1 : gets E (((k : Nat) : Int) - 1) = gets E ((k - 1 : Nat) : Int) := by congr 1; omega
        have hm1 : gets E ((k - 1 : Nat) : Int) ∈ E.take k := by
          rw [← gets_eq (by omega)]
          exact List.mem_take_iff_getElem.2 ⟨k - 1, by omega, rfl⟩
        have hcm := l01Less_c (gets E ((k - 1 : Nat) : Int)) (gets E (k : Nat)) (k1 _ hm1).1 e1
        have hlf : less2 (gets E ((k - 1 : Nat) : Int)) (gets E (k : Nat)) = false := by
          rw [Bool.eq_false_iff]; exact fun h => hord (.inr ((lessLx _ _).1 h))
        rw [hlf, ← hp1] at hcm
        have hno : gok W E = false := gok_f fun h => hord (hsn.1 (pw_take h.srt (k + 1))).2
        generalize mgR (idL W.length) (E.take k) = L at *
        repeat' (first | (apply AOps.nil; try simp only [List.nil_append, List.cons_append, List.set_cons_zero, List.set_cons_succ, List.length_cons, List.length_nil, Nat.reduceAdd, AV.sh, AV.sh1, AV.sh0, AO.sh, List.map_cons, List.map_nil, Nat.zero_add, Nat.add_zero, setAll]) | (apply w_move; exact rfl; exact rfl) | (apply w_assign; exact rfl; exact rfl) | apply AWp.seq | apply AWp.region | ((apply AWp.condP; exact rfl) <;> intro h) | apply AWp.block | apply AWp.ret | apply AWp.exit | apply AWp.skip | (apply w_len; exact rfl; exact rfl; first | exact .ints _ | exact .intss _ | exact .sli rfl | exact .sls rfl | exact .slr rfl | exact .orow rfl | exact .nil) | omega | ((first | apply w_lss | apply w_idx | apply w_ld | apply w_fa); iterate 3 exact rfl) | ((first | apply w_idxs | apply w_lds); iterate 3 exact rfl) | (apply w_ldb; iterate 5 exact rfl))
        refine AWp.regionQ (by kernel_rfl) (by kernel_rfl) ?_
        repeat' (first | (apply AOps.nil; try simp only [List.nil_append, List.cons_append, List.set_cons_zero, List.set_cons_succ, List.length_cons, List.length_nil, Nat.reduceAdd, AV.sh, AV.sh1, AV.sh0, AO.sh, List.map_cons, List.map_nil, Nat.zero_add, Nat.add_zero, setAll]) | ((apply AOps.splitP; exact rfl; exact rfl) <;> intro h) | (apply w_move; exact rfl; exact rfl) | (apply w_assign; exact rfl; exact rfl) | apply AWp.seq | apply AWp.region | (apply AWp.condT; exact rfl) | (apply AWp.condF; exact rfl) | apply AWp.ret | apply AWp.skip | (apply w_skip; exact rfl) | (apply w_pickT; exact rfl; exact rfl; exact rfl) | (apply w_pickF; exact rfl; exact rfl; exact rfl) | (apply w_len; exact rfl; exact rfl; first | exact .ints _ | exact .intss _ | exact .sli rfl | exact .sls rfl | exact .slr rfl | exact .orow rfl | exact .nil) | (apply w_call (hi0); exact rfl; exact rfl; focus ((repeat (first | exact im_nil | refine im_cons rfl (.val _) ?_)); done)) | (apply w_call (hi1); exact rfl; exact rfl; focus ((repeat (first | exact im_nil | refine im_cons rfl (.val _) ?_)); done)) | (apply w_call (hcm); exact rfl; exact rfl; focus ((repeat (first | exact im_nil | refine im_cons rfl (.ints _) ?_)); done)) | omega | ((first | apply w_gtr | apply w_geq | apply w_neq | apply w_sub | apply w_idx | apply w_ld | apply w_fa); iterate 3 exact rfl) | ((first | apply w_idxs | apply w_lds); iterate 3 exact rfl) | ((apply w_not); iterate 2 exact rfl) | (apply w_ldb; iterate 5 exact rfl) | (apply inI_of <;> omega))
        all_goals try (exfalso; omega)
        all_goals try exact .bool Try.results35 rfl hno.symm
      have hpw := hsn.2 ⟨k2, hord⟩
      have hb0 := hmr _ (geti_mem (xs := mgR (idL W.length) (E.take k)) (i := geti (gets E (k : Nat)) 0) e2 (by omega))
      have hb1 := hmr _ (geti_mem (xs := mgR (idL W.length) (E.take k)) (i := geti (gets E (k : Nat)) 1) (by omega) (by omega))
      have hcm : k = 0 ∨ AFnV Try.prog 58 [.ints (gets E (((k : Nat) : Int) - 1)), .ints (gets E (k : Nat))] (.bool true) := by
        by_cases hz : k = 0
        · exact .inl hz
        · right
          have hp1 : gets E (((k : Nat) : Int) - 1) = gets E ((k - 1 : Nat) : Int) := by congr 1; omega
          have hm1 : gets E ((k - 1 : Nat) : Int) ∈ E.take k := by
            rw [← gets_eq (by omega)]
            exact List.mem_take_iff_getElem.2 ⟨k - 1, by omega, rfl⟩
          have hcm := l01Less_c (gets E ((k - 1 : Nat) : Int)) (gets E (k : Nat)) (k1 _ hm1).1 e1
          rw [(lessLx _ _).2 (hord.resolve_left hz), ← hp1] at hcm
          exact hcm
      by_cases hab : geti (mgR (idL W.length) (E.take k)) (geti (gets E (k : Nat)) 0) = geti (mgR (idL W.length) (E.take k)) (geti (gets E (k : Nat)) 1)
      · have hno : gok W E = false := gok_f fun h => by
          have := ((het).1 (hdp h)).2
          rw [effL] at this
          exact this.1 hab
        generalize mgR (idL W.length) (E.take k) = L at *
        repeat' (first | (apply AOps.nil; try simp only [List.nil_append, List.cons_append, List.set_cons_zero, List.set_cons_succ, List.length_cons, List.length_nil, Nat.reduceAdd, AV.sh, AV.sh1, AV.sh0, AO.sh, List.map_cons, List.map_nil, Nat.zero_add, Nat.add_zero, setAll]) | (apply w_move; exact rfl; exact rfl) | (apply w_assign; exact rfl; exact rfl) | apply AWp.seq | apply AWp.region | ((apply AWp.condP; exact rfl) <;> intro h) | apply AWp.block | apply AWp.ret | apply AWp.exit | apply AWp.skip | (apply w_len; exact rfl; exact rfl; first | exact .ints _ | exact .intss _ | exact .sli rfl | exact .sls rfl | exact .slr rfl | exact .orow rfl | exact .nil) | omega | ((first | apply w_lss | apply w_idx | apply w_ld | apply w_fa); iterate 3 exact rfl) | ((first | apply w_idxs | apply w_lds); iterate 3 exact rfl) | (apply w_ldb; iterate 5 exact rfl))
        refine AWp.regionG [] (by kernel_rfl) (envC := ⟨133, [(1, .optr 0 0), (3, .i W.length), (5, .own 1), (7, .i k), (8, .ints (gets E (k : Nat))), (101, .b false)]⟩) (osC := [.bx 29 [.ints W, .intss E], .sli 2 L]) rfl rfl ?_ ?_
        · rcases hcm with hz | hcm
          · subst hz
            repeat' (first | (apply AOps.nil; try simp only [List.nil_append, List.cons_append, List.set_cons_zero, List.set_cons_succ, List.length_cons, List.length_nil, Nat.reduceAdd, AV.sh, AV.sh1, AV.sh0, AO.sh, List.map_cons, List.map_nil, Nat.zero_add, Nat.add_zero, setAll]) | ((apply AOps.splitP; exact rfl; exact rfl) <;> intro h) | (apply w_move; exact rfl; exact rfl) | (apply w_skip; exact rfl) | (apply w_pickT; exact rfl; exact rfl; exact rfl) | (apply w_pickF; exact rfl; exact rfl; exact rfl) | (apply w_len; exact rfl; exact rfl; first | exact .ints _ | exact .intss _ | exact .sli rfl | exact .sls rfl | exact .slr rfl | exact .orow rfl | exact .nil) | apply AllOfG.nil | (apply AllOfG.consS; exact rfl; exact rfl) | (apply AAnyG.takeW; exact rfl; exact rfl; kernel_rfl; kernel_rfl) | (apply AAnyG.takeL; exact rfl; exact rfl; kernel_rfl) | (apply AAnyG.all; exact rfl) | (apply AAnyG.done; exact rfl) | (apply w_call (hi0); exact rfl; exact rfl; focus ((repeat (first | exact im_nil | refine im_cons rfl (.val _) ?_)); done)) | (apply w_call (hi1); exact rfl; exact rfl; focus ((repeat (first | exact im_nil | refine im_cons rfl (.val _) ?_)); done)) | omega | ((first | apply w_gtr | apply w_geq | apply w_neq | apply w_sub | apply w_idx | apply w_ld); iterate 3 exact rfl) | ((apply w_not); iterate 2 exact rfl) | (apply inI_of <;> omega))
            all_goals try (exfalso; omega)
            all_goals (apply Or.inl; refine ⟨lee rfl ?_, ?_, rfl, rfl⟩; (focus ((repeat (first | exact le_nil | refine le_eq rfl rfl ?_)); done)); (focus ((repeat (first | exact lo_nil | refine lo_eq rfl ?_)); done)))
          · repeat' (first | (apply AOps.nil; try simp only [List.nil_append, List.cons_append, List.set_cons_zero, List.set_cons_succ, List.length_cons, List.length_nil, Nat.reduceAdd, AV.sh, AV.sh1, AV.sh0, AO.sh, List.map_cons, List.map_nil, Nat.zero_add, Nat.add_zero, setAll]) | ((apply AOps.splitP; exact rfl; exact rfl) <;> intro h) | (apply w_move; exact rfl; exact rfl) | (apply w_skip; exact rfl) | (apply w_pickT; exact rfl; exact rfl; exact rfl) | (apply w_pickF; exact rfl; exact rfl; exact rfl) | (apply w_len; exact rfl; exact rfl; first | exact .ints _ | exact .intss _ | exact .sli rfl | exact .sls rfl | exact .slr rfl | exact .orow rfl | exact .nil) | apply AllOfG.nil | (apply AllOfG.consS; exact rfl; exact rfl) | (apply AAnyG.takeW; exact rfl; exact rfl; kernel_rfl; kernel_rfl) | (apply AAnyG.takeL; exact rfl; exact rfl; kernel_rfl) | (apply AAnyG.all; exact rfl) | (apply AAnyG.done; exact rfl) | (apply w_call (hi0); exact rfl; exact rfl; focus ((repeat (first | exact im_nil | refine im_cons rfl (.val _) ?_)); done)) | (apply w_call (hi1); exact rfl; exact rfl; focus ((repeat (first | exact im_nil | refine im_cons rfl (.val _) ?_)); done)) | (apply w_call (hcm); exact rfl; exact rfl; focus ((repeat (first | exact im_nil | refine im_cons rfl (.ints _) ?_)); done)) | omega | ((first | apply w_gtr | apply w_geq | apply w_neq | apply w_sub | apply w_idx | apply w_ld | apply w_fa); iterate 3 exact rfl) | ((first | apply w_idxs | apply w_lds); iterate 3 exact rfl) | ((apply w_not); iterate 2 exact rfl) | (apply w_ldb; iterate 5 exact rfl) | (apply inI_of <;> omega))
            all_goals try (exfalso; omega)
            all_goals (apply Or.inl; refine ⟨lee rfl ?_, ?_, rfl, rfl⟩; (focus ((repeat (first | exact le_nil | refine le_eq rfl rfl ?_)); done)); (focus ((repeat (first | exact lo_nil | refine lo_eq rfl ?_)); done)))
        clear hcm
        generalize hev : gets E (k : Nat) = e at *
        obtain ⟨a, ea⟩ : ∃ a, a = geti L (geti e 0) := ⟨_, rfl⟩
        obtain ⟨b, eb⟩ : ∃ b, b = geti L (geti e 1) := ⟨_, rfl⟩
        repeat' (first | apply AWp.seq | (apply AWp.condF; exact rfl) | apply AWp.skip)
        refine AWp.regionG [] (by kernel_rfl) (envC := ⟨133, [(1, .optr 0 0), (3, .i W.length), (5, .own 1), (7, .i k), (9, .i a), (10, .i b)]⟩) (osC := [.bx 29 [.ints W, .intss E], .sli 2 L]) rfl rfl ?_ ?_
        · rw [ea, eb]
          repeat' (first | (apply AOps.nil; try simp only [List.nil_append, List.cons_append, List.set_cons_zero, List.set_cons_succ, List.length_cons, List.length_nil, Nat.reduceAdd, AV.sh, AV.sh1, AV.sh0, AO.sh, List.map_cons, List.map_nil, Nat.zero_add, Nat.add_zero, setAll]) | (apply w_move; exact rfl; exact rfl) | (apply w_assign; exact rfl; exact rfl) | (apply AAnyG.takeW; exact rfl; exact rfl; kernel_rfl; kernel_rfl) | (apply AAnyG.takeL; exact rfl; exact rfl; kernel_rfl) | (apply AAnyG.done; exact rfl) | omega | ((first | apply w_idx | apply w_ld); iterate 3 exact rfl) | (apply w_idxo; exact rfl; exact rfl; (exact .sli rfl); exact rfl) | (apply w_ldo; iterate 4 exact rfl))
          all_goals (apply Or.inl; refine ⟨lee rfl ?_, ?_, rfl, rfl⟩; (focus ((repeat (first | exact le_nil | refine le_eq rfl rfl ?_)); done)); (focus ((repeat (first | exact lo_nil | refine lo_eq rfl ?_)); done)))
        rw [← ea, ← eb] at hab hmt
        rw [← ea] at hb0
        rw [← eb] at hb1
        clear ea eb
        repeat' (first | (apply AOps.nil; try simp only [List.nil_append, List.cons_append, List.set_cons_zero, List.set_cons_succ, List.length_cons, List.length_nil, Nat.reduceAdd, AV.sh, AV.sh1, AV.sh0, AO.sh, List.map_cons, List.map_nil, Nat.zero_add, Nat.add_zero, setAll]) | (apply w_move; exact rfl; exact rfl) | (apply w_assign; exact rfl; exact rfl) | apply AWp.seq | apply AWp.region | ((apply AWp.condP; exact rfl) <;> intro h) | apply AWp.block | apply AWp.ret | apply AWp.skip | omega | ((apply w_eql); iterate 3 exact rfl))
        all_goals try (exfalso; omega)
        all_goals try exact .bool Try.results35 rfl hno.symm
      · have hef : effL (idL W.length) (E.take (k + 1)) := het.2 ⟨k3, by rw [effL]; exact ⟨hab, trivial⟩⟩
        generalize mgR (idL W.length) (E.take k) = L at *
        repeat' (first | (apply AOps.nil; try simp only [List.nil_append, List.cons_append, List.set_cons_zero, List.set_cons_succ, List.length_cons, List.length_nil, Nat.reduceAdd, AV.sh, AV.sh1, AV.sh0, AO.sh, List.map_cons, List.map_nil, Nat.zero_add, Nat.add_zero, setAll]) | (apply w_move; exact rfl; exact rfl) | (apply w_assign; exact rfl; exact rfl) | apply AWp.seq | apply AWp.region | ((apply AWp.condP; exact rfl) <;> intro h) | apply AWp.block | apply AWp.ret | apply AWp.exit | apply AWp.skip | (apply w_len; exact rfl; exact rfl; first | exact .ints _ | exact .intss _ | exact .sli rfl | exact .sls rfl | exact .slr rfl | exact .orow rfl | exact .nil) | omega | ((first | apply w_lss | apply w_idx | apply w_ld | apply w_fa); iterate 3 exact rfl) | ((first | apply w_idxs | apply w_lds); iterate 3 exact rfl) | (apply w_ldb; iterate 5 exact rfl))
        refine AWp.regionG [] (by kernel_rfl) (envC := ⟨133, [(1, .optr 0 0), (3, .i W.length), (5, .own 1), (7, .i k), (8, .ints (gets E (k : Nat))), (101, .b false)]⟩) (osC := [.bx 29 [.ints W, .intss E], .sli 2 L]) rfl rfl ?_ ?_
        · rcases hcm with hz | hcm
          · subst hz
            repeat' (first | (apply AOps.nil; try simp only [List.nil_append, List.cons_append, List.set_cons_zero, List.set_cons_succ, List.length_cons, List.length_nil, Nat.reduceAdd, AV.sh, AV.sh1, AV.sh0, AO.sh, List.map_cons, List.map_nil, Nat.zero_add, Nat.add_zero, setAll]) | ((apply AOps.splitP; exact rfl; exact rfl) <;> intro h) | (apply w_move; exact rfl; exact rfl) | (apply w_skip; exact rfl) | (apply w_pickT; exact rfl; exact rfl; exact rfl) | (apply w_pickF; exact rfl; exact rfl; exact rfl) | (apply w_len; exact rfl; exact rfl; first | exact .ints _ | exact .intss _ | exact .sli rfl | exact .sls rfl | exact .slr rfl | exact .orow rfl | exact .nil) | apply AllOfG.nil | (apply AllOfG.consS; exact rfl; exact rfl) | (apply AAnyG.takeW; exact rfl; exact rfl; kernel_rfl; kernel_rfl) | (apply AAnyG.takeL; exact rfl; exact rfl; kernel_rfl) | (apply AAnyG.all; exact rfl) | (apply AAnyG.done; exact rfl) | (apply w_call (hi0); exact rfl; exact rfl; focus ((repeat (first | exact im_nil | refine im_cons rfl (.val _) ?_)); done)) | (apply w_call (hi1); exact rfl; exact rfl; focus ((repeat (first | exact im_nil | refine im_cons rfl (.val _) ?_)); done)) | omega | ((first | apply w_gtr | apply w_geq | apply w_neq | apply w_sub | apply w_idx | apply w_ld); iterate 3 exact rfl) | ((apply w_not); iterate 2 exact rfl) | (apply inI_of <;> omega))
            all_goals try (exfalso; omega)
            all_goals (apply Or.inl; refine ⟨lee rfl ?_, ?_, rfl, rfl⟩; (focus ((repeat (first | exact le_nil | refine le_eq rfl rfl ?_)); done)); (focus ((repeat (first | exact lo_nil | refine lo_eq rfl ?_)); done)))
          · repeat' (first | (apply AOps.nil; try simp only [List.nil_append, List.cons_append, List.set_cons_zero, List.set_cons_succ, List.length_cons, List.length_nil, Nat.reduceAdd, AV.sh, AV.sh1, AV.sh0, AO.sh, List.map_cons, List.map_nil, Nat.zero_add, Nat.add_zero, setAll]) | ((apply AOps.splitP; exact rfl; exact rfl) <;> intro h) | (apply w_move; exact rfl; exact rfl) | (apply w_skip; exact rfl) | (apply w_pickT; exact rfl; exact rfl; exact rfl) | (apply w_pickF; exact rfl; exact rfl; exact rfl) | (apply w_len; exact rfl; exact rfl; first | exact .ints _ | exact .intss _ | exact .sli rfl | exact .sls rfl | exact .slr rfl | exact .orow rfl | exact .nil) | apply AllOfG.nil | (apply AllOfG.consS; exact rfl; exact rfl) | (apply AAnyG.takeW; exact rfl; exact rfl; kernel_rfl; kernel_rfl) | (apply AAnyG.takeL; exact rfl; exact rfl; kernel_rfl) | (apply AAnyG.all; exact rfl) | (apply AAnyG.done; exact rfl) | (apply w_call (hi0); exact rfl; exact rfl; focus ((repeat (first | exact im_nil | refine im_cons rfl (.val _) ?_)); done)) | (apply w_call (hi1); exact rfl; exact rfl; focus ((repeat (first | exact im_nil | refine im_cons rfl (.val _) ?_)); done)) | (apply w_call (hcm); exact rfl; exact rfl; focus ((repeat (first | exact im_nil | refine im_cons rfl (.ints _) ?_)); done)) | omega | ((first | apply w_gtr | apply w_geq | apply w_neq | apply w_sub | apply w_idx | apply w_ld | apply w_fa); iterate 3 exact rfl) | ((first | apply w_idxs | apply w_lds); iterate 3 exact rfl) | ((apply w_not); iterate 2 exact rfl) | (apply w_ldb; iterate 5 exact rfl) | (apply inI_of <;> omega))
            all_goals try (exfalso; omega)
            all_goals (apply Or.inl; refine ⟨lee rfl ?_, ?_, rfl, rfl⟩; (focus ((repeat (first | exact le_nil | refine le_eq rfl rfl ?_)); done)); (focus ((repeat (first | exact lo_nil | refine lo_eq rfl ?_)); done)))
        clear hcm
        generalize hev : gets E (k : Nat) = e at *
        obtain ⟨a, ea⟩ : ∃ a, a = geti L (geti e 0) := ⟨_, rfl⟩
        obtain ⟨b, eb⟩ : ∃ b, b = geti L (geti e 1) := ⟨_, rfl⟩
        repeat' (first | apply AWp.seq | (apply AWp.condF; exact rfl) | apply AWp.skip)
        refine AWp.regionG [] (by kernel_rfl) (envC := ⟨133, [(1, .optr 0 0), (3, .i W.length), (5, .own 1), (7, .i k), (9, .i a), (10, .i b)]⟩) (osC := [.bx 29 [.ints W, .intss E], .sli 2 L]) rfl rfl ?_ ?_
        · rw [ea, eb]
          repeat' (first | (apply AOps.nil; try simp only [List.nil_append, List.cons_append, List.set_cons_zero, List.set_cons_succ, List.length_cons, List.length_nil, Nat.reduceAdd, AV.sh, AV.sh1, AV.sh0, AO.sh, List.map_cons, List.map_nil, Nat.zero_add, Nat.add_zero, setAll]) | (apply w_move; exact rfl; exact rfl) | (apply w_assign; exact rfl; exact rfl) | (apply AAnyG.takeW; exact rfl; exact rfl; kernel_rfl; kernel_rfl) | (apply AAnyG.takeL; exact rfl; exact rfl; kernel_rfl) | (apply AAnyG.done; exact rfl) | omega | ((first | apply w_idx | apply w_ld); iterate 3 exact rfl) | (apply w_idxo; exact rfl; exact rfl; (exact .sli rfl); exact rfl) | (apply w_ldo; iterate 4 exact rfl))
          all_goals (apply Or.inl; refine ⟨lee rfl ?_, ?_, rfl, rfl⟩; (focus ((repeat (first | exact le_nil | refine le_eq rfl rfl ?_)); done)); (focus ((repeat (first | exact lo_nil | refine lo_eq rfl ?_)); done)))
        rw [← ea, ← eb] at hab hmt
        rw [← ea] at hb0
        rw [← eb] at hb1
        clear ea eb
        repeat' (first | (apply AOps.nil; try simp only [List.nil_append, List.cons_append, List.set_cons_zero, List.set_cons_succ, List.length_cons, List.length_nil, Nat.reduceAdd, AV.sh, AV.sh1, AV.sh0, AO.sh, List.map_cons, List.map_nil, Nat.zero_add, Nat.add_zero, setAll]) | (apply w_move; exact rfl; exact rfl) | (apply w_assign; exact rfl; exact rfl) | apply AWp.seq | apply AWp.region | ((apply AWp.condP; exact rfl) <;> intro h) | apply AWp.block | apply AWp.ret | apply AWp.skip | omega | ((apply w_eql); iterate 3 exact rfl))
        all_goals try (exfalso; omega)
        refine AWp.loop (ι := Nat) (fun j => ⟨133, [(1, .optr 0 0), (3, .i W.length), (5, .own 1), (7, .i k), (9, .i a), (10, .i b), (11, .i j)]⟩) (fun j => [.bx 29 [.ints W, .intss E], .sli 2 (mgT L a b j)]) (fun j => j ≤ W.length) (fun j => W.length - j) 0 (by omega) ⟨lee rfl (by (repeat (first | exact le_nil | refine le_eq rfl rfl ?_))), by (repeat (first | exact lo_nil | refine lo_eq rfl ?_)), rfl, rfl⟩ ?_
        intro j j0
        have ml := mgT_len L a b j
        by_cases hj : j < W.length
        · have m1 := mgT_at (L := L) (a := a) (b := b) (i := j) (by omega)
          have m2 := mgT_eq (L := L) (a := a) (b := b) (i := j) (by omega)
          rw [← m1] at m2
          generalize mgT L a b j = M at *
          have ej : geti M ((((j : Nat) : Int)).toNat : Nat) = geti M (j : Nat) := by rw [Int.toNat_natCast]
          by_cases hc : geti M (j : Nat) = b
          · rw [if_pos hc] at m2
            have hc' := hc
            rw [← ej] at hc'
            repeat' (first | (apply AOps.nil; try simp only [List.nil_append, List.cons_append, List.set_cons_zero, List.set_cons_succ, List.length_cons, List.length_nil, Nat.reduceAdd, AV.sh, AV.sh1, AV.sh0, AO.sh, List.map_cons, List.map_nil, Nat.zero_add, Nat.add_zero, setAll]) | (apply w_move; exact rfl; exact rfl) | (apply w_assign; exact rfl; exact rfl) | apply AWp.seq | apply AWp.region | ((apply AWp.condP; exact rfl) <;> intro h) | apply AWp.block | apply AWp.exit | apply AWp.skip | (apply w_len; exact rfl; exact rfl; first | exact .ints _ | exact .intss _ | exact .sli rfl | exact .sls rfl | exact .slr rfl | exact .orow rfl | exact .nil) | omega | ((first | apply w_lss | apply w_eql | apply w_add | apply w_idx | apply w_ld); iterate 3 exact rfl) | (apply w_idxo; exact rfl; exact rfl; (exact .sli rfl); exact rfl) | (apply w_ldo; iterate 4 exact rfl) | (apply w_sti; exact rfl; exact rfl; rotate_left 1; exact rfl; rotate_left 2) | (apply inI_of <;> omega))
            all_goals try (exfalso; first | exact absurd hc' (by assumption) | exact absurd (by assumption) hc')
            exact ⟨j + 1, by omega, by omega, by rw [m2]; exact ⟨lee rfl (by (repeat (first | exact le_nil | refine le_eq rfl rfl ?_))), by (repeat (first | exact lo_nil | refine lo_eq rfl ?_)), rfl, rfl⟩⟩
          · rw [if_neg hc, set_same] at m2
            have hc' := hc
            rw [← ej] at hc'
            repeat' (first | (apply AOps.nil; try simp only [List.nil_append, List.cons_append, List.set_cons_zero, List.set_cons_succ, List.length_cons, List.length_nil, Nat.reduceAdd, AV.sh, AV.sh1, AV.sh0, AO.sh, List.map_cons, List.map_nil, Nat.zero_add, Nat.add_zero, setAll]) | (apply w_move; exact rfl; exact rfl) | (apply w_assign; exact rfl; exact rfl) | apply AWp.seq | apply AWp.region | ((apply AWp.condP; exact rfl) <;> intro h) | apply AWp.block | apply AWp.exit | apply AWp.skip | (apply w_len; exact rfl; exact rfl; first | exact .ints _ | exact .intss _ | exact .sli rfl | exact .sls rfl | exact .slr rfl | exact .orow rfl | exact .nil) | omega | ((first | apply w_lss | apply w_eql | apply w_add | apply w_idx | apply w_ld); iterate 3 exact rfl) | (apply w_idxo; exact rfl; exact rfl; (exact .sli rfl); exact rfl) | (apply w_ldo; iterate 4 exact rfl) | (apply inI_of <;> omega))
            all_goals try (exfalso; first | exact absurd hc' (by assumption) | exact absurd (by assumption) hc')
            exact ⟨j + 1, by omega, by omega, by rw [m2]; exact ⟨lee rfl (by (repeat (first | exact le_nil | refine le_eq rfl rfl ?_))), by (repeat (first | exact lo_nil | refine lo_eq rfl ?_)), rfl, rfl⟩⟩
        · have ej : j = L.length := by omega
          have hml2 : (mgR (idL W.length) (E.take (k + 1))).length = W.length := by rw [mgR_len, idL_len]
          rw [ej, mgT_all, ← hmt]
          repeat' (first | (apply AOps.nil; try simp only [List.nil_append, List.cons_append, List.set_cons_zero, List.set_cons_succ, List.length_cons, List.length_nil, Nat.reduceAdd, AV.sh, AV.sh1, AV.sh0, AO.sh, List.map_cons, List.map_nil, Nat.zero_add, Nat.add_zero, setAll]) | (apply w_move; exact rfl; exact rfl) | (apply w_assign; exact rfl; exact rfl) | apply AWp.seq | apply AWp.region | ((apply AWp.condP; exact rfl) <;> intro h) | apply AWp.block | apply AWp.exit | apply AWp.skip | (apply w_len; exact rfl; exact rfl; first | exact .ints _ | exact .intss _ | exact .sli rfl | exact .sls rfl | exact .slr rfl | exact .orow rfl | exact .nil) | omega | ((first | apply w_lss | apply w_add); iterate 3 exact rfl) | (apply inI_of <;> omega))
          exact ⟨k + 1, ⟨by omega, hrw, hpw, hef⟩, by omega, ⟨lee rfl (by (repeat (first | exact le_nil | refine le_eq rfl rfl ?_))), by (repeat (first | exact lo_nil | refine lo_eq rfl ?_)), rfl, rfl⟩⟩
    · have hno : gok W E = false := gok_f fun h => he (h.row _ hmem)
      unfold EIn at he
      generalize mgR (idL W.length) (E.take k) = L at *
      repeat' (first | (apply AOps.nil; try simp only [List.nil_append, List.cons_append, List.set_cons_zero, List.set_cons_succ, List.length_cons, List.length_nil, Nat.reduceAdd, AV.sh, AV.sh1, AV.sh0, AO.sh, List.map_cons, List.map_nil, Nat.zero_add, Nat.add_zero, setAll]) | (apply w_move; exact rfl; exact rfl) | (apply w_assign; exact rfl; exact rfl) | apply AWp.seq | apply AWp.region | ((apply AWp.condP; exact rfl) <;> intro h) | apply AWp.block | apply AWp.ret | apply AWp.exit | apply AWp.skip | (apply w_len; exact rfl; exact rfl; first | exact .ints _ | exact .intss _ | exact .sli rfl | exact .sls rfl | exact .slr rfl | exact .orow rfl | exact .nil) | omega | ((first | apply w_lss | apply w_idx | apply w_ld | apply w_fa); iterate 3 exact rfl) | ((first | apply w_idxs | apply w_lds); iterate 3 exact rfl) | (apply w_ldb; iterate 5 exact rfl))
      refine AWp.regionQ (by kernel_rfl) (by kernel_rfl) ?_
      repeat' (first | (apply AOps.nil; try simp only [List.nil_append, List.cons_append, List.set_cons_zero, List.set_cons_succ, List.length_cons, List.length_nil, Nat.reduceAdd, AV.sh, AV.sh1, AV.sh0, AO.sh, List.map_cons, List.map_nil, Nat.zero_add, Nat.add_zero, setAll]) | ((apply AOps.splitP; exact rfl; exact rfl) <;> intro h) | ((apply AOps.splitN; exact rfl; exact rfl) <;> intro h) | (apply w_move; exact rfl; exact rfl) | (apply w_assign; exact rfl; exact rfl) | apply AWp.seq | apply AWp.region | (apply AWp.condT; exact rfl) | apply AWp.ret | (apply w_skip; exact rfl) | (apply w_pickT; exact rfl; exact rfl; exact rfl) | (apply w_pickF; exact rfl; exact rfl; exact rfl) | (apply w_len; exact rfl; exact rfl; first | exact .ints _ | exact .intss _ | exact .sli rfl | exact .sls rfl | exact .slr rfl | exact .orow rfl | exact .nil) | (apply w_call (hi0); exact rfl; exact rfl; focus ((repeat (first | exact im_nil | refine im_cons rfl (.val _) ?_)); done)) | (apply w_call (hi1); exact rfl; exact rfl; focus ((repeat (first | exact im_nil | refine im_cons rfl (.val _) ?_)); done)) | omega | ((first | apply w_geq | apply w_neq | apply w_sub | apply w_idx | apply w_ld); iterate 3 exact rfl) | ((apply w_not); iterate 2 exact rfl) | (apply inI_of <;> omega))
      all_goals try (exfalso; omega)
      all_goals try exact .bool Try.results35 rfl hno.symm
  · have ek : k = E.length := by omega
    subst ek
    rw [List.take_length] at k1 k2 k3 ⊢
    have hyes : gok W E = true := gok_iff.2 ⟨⟨c1, c2⟩, i1, k1, k2, k3⟩
    repeat' (first | (apply AOps.nil; try simp only [List.nil_append, List.cons_append, List.set_cons_zero, List.set_cons_succ, List.length_cons, List.length_nil, Nat.reduceAdd, AV.sh, AV.sh1, AV.sh0, AO.sh, List.map_cons, List.map_nil, Nat.zero_add, Nat.add_zero, setAll]) | (apply w_move; exact rfl; exact rfl) | (apply w_assign; exact rfl; exact rfl) | apply AWp.seq | apply AWp.region | ((apply AWp.condP; exact rfl) <;> intro h) | apply AWp.block | apply AWp.ret | apply AWp.exit | apply AWp.skip | (apply w_len; exact rfl; exact rfl; first | exact .ints _ | exact .intss _ | exact .sli rfl | exact .sls rfl | exact .slr rfl | exact .orow rfl | exact .nil) | omega | ((first | apply w_lss | apply w_ld | apply w_fa); iterate 3 exact rfl) | (apply w_ldb; iterate 5 exact rfl))
    all_goals exact .bool Try.results35 rfl hyes.symm
end Go.Proofs.Ytbalbiliejjnoaa
/-
  A visit of the search in depth, walked. Condition: a forest of at most 40 vertices.
-/
namespace Go.Proofs.Ytbalbiliejjnoaa
open Go Go.RowKit
attribute [local irreducible] AWp AOps ResIs Ret1 QOp LOp COp AFnV AFn Imms LeE LeO
set_option maxHeartbeats 1000000
set_option linter.unusedSimpArgs false
set_option linter.unusedVariables false

theorem sn_get (s : WS) (c : Int) : s.sn c = s.s.getD c.toNat false := rfl
theorem lpF_seen {vis : Int → WS → WS} {c : Int} {cs : List Int} {s : WS} {p r : Int} (h : s.sn c = true) : lpF vis (c :: cs) s p r = lpF vis cs s p r := by rw [lpF, if_pos h]
theorem lpF_new {vis : Int → WS → WS} {c : Int} {cs : List Int} {s : WS} {p r : Int} (h : s.sn c = false) (hok : okS p r (geti (vis c s).f c) (geti (vis c s).g c) = true) : lpF vis (c :: cs) s p r = lpF vis cs (vis c s) (p * geti (vis c s).f c) (r * geti (vis c s).f c - p * geti (vis c s).g c) := by
  rw [lpF, if_neg (by rw [h]; simp), if_pos hok]
theorem lpF_big {vis : Int → WS → WS} {c : Int} {cs : List Int} {s : WS} {p r : Int} (h : s.sn c = false) (hok : ¬ okS p r (geti (vis c s).f c) (geti (vis c s).g c) = true) : lpF vis (c :: cs) s p r = lpF vis cs (vis c s).big 0 0 := by
  rw [lpF, if_neg (by rw [h]; simp), if_neg hok]
theorem drop_geti {xs : List Int} {i : Nat} (h : i < xs.length) : xs.drop i = geti xs (i : Nat) :: xs.drop (i + 1) := by
  rw [List.drop_eq_getElem_cons h]; simp [geti, List.getD_eq_getElem?_getD, List.getElem?_eq_getElem h]
theorem geti_memo {xs : List Int} {v : Int} {n : Nat} (hl : xs.length = n) (h : ∀ x ∈ xs, inM x) (h0 : 0 ≤ v ∧ v < n) : inM (geti xs v) := h _ (geti_mem h0.1 (by omega))

set_option maxHeartbeats 16000000 in
theorem visit_c (W : List Int) (E : List (List Int)) (h : GrF W E) : ∀ (k : Nat) (v : Int) (s : WS), WOk W.length s → s.cnt ≤ k → 0 ≤ v ∧ v < W.length → s.sn v = false →
    AFnB Try.prog 65 83 2 4 W (nbs W E) [.int .i64 v] s (visF W (nearL E) k v s) (.tuple #[])
  | 0, v, s, hs, hk, hv, hn => by have := cnt_pos hs.ls hv hn; omega
  | k + 1, v, s, hs, hk, hv, hn => by
    have ih := visit_c W E h k
    have hw := h.w v
    have hnn := h.n
    have hm := cnt_mark hs.ls hv hn
    have hF := h.fo.fst
    have hnb : gets (nbs W E) v = nearL E v := by
      obtain ⟨m, rfl⟩ := Int.eq_ofNat_of_zero_le hv.1
      have := nbs_get (W := W) (E := E) (v := m) (by omega)
      simpa [gets] using this
    have hnl : (nbs W E).length = W.length := by simp [nbs]
    have hne := near_len h v
    have hrng : ∀ i : Nat, i < (nearL E v).length → 0 ≤ geti (nearL E v) (i : Nat) ∧ geti (nearL E v) (i : Nat) < W.length := fun i hi => (hF.bnd v _ (geti_mem (by omega) (by omega))).1
    have hvo : ∀ (c : Int) (t : WS), WOk W.length t → t.cnt ≤ k → 0 ≤ c ∧ c < W.length → t.sn c = false → WOk W.length (visF W (nearL E) k c t) ∧ WLe t (visF W (nearL E) k c t) := visF_ok h.w hF k
    have okm := ok_mark hs v
    have hms : s.s.set v.toNat true = (s.mark v).s := rfl
    show AFnB _ _ _ _ _ _ _ _ _ ((lpF (visF W (nearL E) k) (nearL E v) (s.mark v) 1 (-geti W v)).1.put v (lpF (visF W (nearL E) k) (nearL E v) (s.mark v) 1 (-geti W v)).2.1 (lpF (visF W (nearL E) k) (nearL E v) (s.mark v) 1 (-geti W v)).2.2) _
    generalize hT : lpF (visF W (nearL E) k) (nearL E v) (s.mark v) 1 (-geti W v) = T
    have ls := hs.ls
    have lf := hs.lf
    have lg := hs.lg
    (refine AFnB.start Try.func65 Try.ntmps65 rfl (by kernel_rfl) fun K vW vN => ?_; simp only [wkL, Env.start, enumF, List.map_cons, List.map_nil, List.length_cons, List.length_nil, Nat.reduceAdd, Nat.reduceSub, Nat.zero_add, List.cons_append, List.nil_append])
    repeat' (first
  | (apply AOps.nil; try simp only [List.nil_append, List.cons_append, List.set_cons_zero, List.set_cons_succ, List.length_cons, List.length_nil, Nat.reduceAdd, AV.sh, AV.sh1, AV.sh0, AO.sh, List.map_cons, List.map_nil, Nat.zero_add, Nat.add_zero, setAll])
  | ((apply AOps.splitP; exact rfl; exact rfl) <;> intro h)
  | ((apply AOps.splitN; exact rfl; exact rfl) <;> intro h)
  | (apply w_move; exact rfl; exact rfl)
  | (apply w_assign; exact rfl; exact rfl)
  | apply AWp.seq
  | apply AWp.region
  | ((apply AWp.condP; exact rfl) <;> intro h)
  | ((apply AWp.condN; exact rfl) <;> intro h)
  | (apply AWp.condT; exact rfl)
  | (apply AWp.condF; exact rfl)
  | ((apply AWp.condB; exact rfl) <;> intro h)
  | apply AWp.block
  | apply AWp.ret
  | apply AWp.exit
  | apply AWp.skip
  | (apply if_pos'; exact rfl)
  | (apply if_neg'; decide)
  | (apply w_skip; exact rfl)
  | (apply w_pickT; exact rfl; exact rfl; exact rfl)
  | (apply w_pickF; exact rfl; exact rfl; exact rfl)
  | (apply w_lenb; iterate 3 exact rfl)
  | (apply w_len; exact rfl; exact rfl; first | exact .ints _ | exact .intss _ | exact .sli rfl | exact .sls rfl | exact .slr rfl | exact .orow rfl | exact .nil)
  | (apply w_mkb; exact rfl; exact rfl; rotate_left 3; exact rfl; rotate_left 1)
  | (apply w_idxb; iterate 4 exact rfl)
  | (apply w_ldbl; iterate 4 exact rfl)
  | (apply w_stb; exact rfl; exact rfl; rotate_left 1; exact rfl; rotate_left 1)
  | (apply w_ldbi; iterate 5 exact rfl)
  | (apply w_ldbn; iterate 5 exact rfl)
  | ((first | apply w_nilck | apply w_convu | apply w_convi | apply w_not | apply w_neg | apply w_conv | apply w_build0 | apply w_bs1 | apply w_boxa); iterate 2 exact rfl)
  | ((first | apply w_shr1 | apply w_lss | apply w_leq | apply w_gtr | apply w_geq | apply w_eql | apply w_neq | apply w_add | apply w_sub | apply w_mul | apply w_idx | apply w_ld | apply w_fld | apply w_fa | apply w_extv | apply w_min | apply w_max | apply w_slhi | apply w_sllo | apply w_bs2); iterate 3 exact rfl)
  | omega
  | ((first | apply w_eqlb | apply w_neqb | apply w_idxs | apply w_lds | apply w_ext); iterate 3 exact rfl)
  | (apply w_rem; exact rfl; exact rfl; exact rfl; (focus (omega; done)); (focus (omega; done)))
  | (apply w_quo; exact rfl; exact rfl; exact rfl; (focus (omega; done)); (focus (omega; done)))
  | (apply w_remT; exact rfl; exact rfl; exact rfl)
  | (apply w_quoT; exact rfl; exact rfl; exact rfl)
  | (apply w_idxo; exact rfl; exact rfl; (first | exact .sli rfl | exact .sls rfl | exact .slr rfl); exact rfl)
  | ((first | apply w_idxr | apply w_ldr); iterate 4 exact rfl)
  | (apply w_ldo; iterate 4 exact rfl)
  | (apply w_ldls; iterate 4 exact rfl)
  | (apply w_ldrp; iterate 4 exact rfl)
  | (apply w_ldb; iterate 5 exact rfl)
  | (apply w_ldst; iterate 5 exact rfl)
  | ((first | apply w_sllh | apply w_stbi); iterate 4 exact rfl)
  | ((first | apply w_oslo | apply w_oshi | apply w_stbii); iterate 4 exact rfl)
  | (apply w_build1; exact rfl; exact rfl; (first | exact one_val rfl rfl | exact one_ints | exact one_intss | exact one_own rfl True.intro))
  | (apply w_build2; exact rfl; exact rfl; exact rfl; (first | exact one_val rfl rfl | exact one_ints | exact one_intss | exact one_own rfl True.intro); (first | exact one_val rfl rfl | exact one_ints | exact one_intss | exact one_own rfl True.intro))
  | (apply w_bs0; iterate 1 exact rfl)
  | (apply w_appn; exact rfl; exact rfl; (first | exact .ints _ | exact .sli rfl | exact .orow rfl | exact .nil | exact .osub rfl (by simp; omega)); exact rfl)
  | (apply w_alst; iterate 2 exact rfl)
  | (apply w_alone; iterate 3 exact rfl)
  | (apply w_mkr; exact rfl; exact rfl; rotate_left 3; exact rfl; rotate_left 1)
  | (apply w_sti; exact rfl; exact rfl; rotate_left 1; exact rfl; rotate_left 2)
  | (apply w_stst; iterate 5 exact rfl)
  | (apply w_stbv; iterate 6 exact rfl)
  | (apply w_stbo; exact rfl; exact rfl; exact rfl; exact rfl; exact rfl; exact True.intro)
  | ((apply AOps.splitB; exact rfl; exact rfl) <;> intro h)
  | apply AllOf.nil
  | (apply AllOf.cons; exact rfl)
  | (apply AAny.take; exact rfl; exact rfl; kernel_rfl; kernel_rfl)
  | (apply AAny.all; exact rfl)
  | (apply AAny.done; exact rfl)
  | (apply inI_of <;> omega)
  | omega
  | (simp <;> omega))
    rw [hms]
    refine AWp.regionQ (by kernel_rfl) (by kernel_rfl) ?_
    repeat' (first
  | (apply AOps.nil; try simp only [List.nil_append, List.cons_append, List.set_cons_zero, List.set_cons_succ, List.length_cons, List.length_nil, Nat.reduceAdd, AV.sh, AV.sh1, AV.sh0, AO.sh, List.map_cons, List.map_nil, Nat.zero_add, Nat.add_zero, setAll])
  | ((apply AOps.splitP; exact rfl; exact rfl) <;> intro h)
  | ((apply AOps.splitN; exact rfl; exact rfl) <;> intro h)
  | (apply w_move; exact rfl; exact rfl)
  | (apply w_assign; exact rfl; exact rfl)
  | apply AWp.seq
  | apply AWp.region
  | ((apply AWp.condP; exact rfl) <;> intro h)
  | ((apply AWp.condN; exact rfl) <;> intro h)
  | (apply AWp.condT; exact rfl)
  | (apply AWp.condF; exact rfl)
  | ((apply AWp.condB; exact rfl) <;> intro h)
  | apply AWp.block
  | apply AWp.ret
  | apply AWp.exit
  | apply AWp.skip
  | (apply if_pos'; exact rfl)
  | (apply if_neg'; decide)
  | (apply w_skip; exact rfl)
  | (apply w_pickT; exact rfl; exact rfl; exact rfl)
  | (apply w_pickF; exact rfl; exact rfl; exact rfl)
  | (apply w_lenb; iterate 3 exact rfl)
  | (apply w_len; exact rfl; exact rfl; first | exact .ints _ | exact .intss _ | exact .sli rfl | exact .sls rfl | exact .slr rfl | exact .orow rfl | exact .nil)
  | (apply w_mkb; exact rfl; exact rfl; rotate_left 3; exact rfl; rotate_left 1)
  | (apply w_idxb; iterate 4 exact rfl)
  | (apply w_ldbl; iterate 4 exact rfl)
  | (apply w_stb; exact rfl; exact rfl; rotate_left 1; exact rfl; rotate_left 1)
  | (apply w_ldbi; iterate 5 exact rfl)
  | (apply w_ldbn; iterate 5 exact rfl)
  | ((first | apply w_nilck | apply w_convu | apply w_convi | apply w_not | apply w_neg | apply w_conv | apply w_build0 | apply w_bs1 | apply w_boxa); iterate 2 exact rfl)
  | ((first | apply w_shr1 | apply w_lss | apply w_leq | apply w_gtr | apply w_geq | apply w_eql | apply w_neq | apply w_add | apply w_sub | apply w_mul | apply w_idx | apply w_ld | apply w_fld | apply w_fa | apply w_extv | apply w_min | apply w_max | apply w_slhi | apply w_sllo | apply w_bs2); iterate 3 exact rfl)
  | omega
  | ((first | apply w_eqlb | apply w_neqb | apply w_idxs | apply w_lds | apply w_ext); iterate 3 exact rfl)
  | (apply w_rem; exact rfl; exact rfl; exact rfl; (focus (omega; done)); (focus (omega; done)))
  | (apply w_quo; exact rfl; exact rfl; exact rfl; (focus (omega; done)); (focus (omega; done)))
  | (apply w_remT; exact rfl; exact rfl; exact rfl)
  | (apply w_quoT; exact rfl; exact rfl; exact rfl)
  | (apply w_idxo; exact rfl; exact rfl; (first | exact .sli rfl | exact .sls rfl | exact .slr rfl); exact rfl)
  | ((first | apply w_idxr | apply w_ldr); iterate 4 exact rfl)
  | (apply w_ldo; iterate 4 exact rfl)
  | (apply w_ldls; iterate 4 exact rfl)
  | (apply w_ldrp; iterate 4 exact rfl)
  | (apply w_ldb; iterate 5 exact rfl)
  | (apply w_ldst; iterate 5 exact rfl)
  | ((first | apply w_sllh | apply w_stbi); iterate 4 exact rfl)
  | ((first | apply w_oslo | apply w_oshi | apply w_stbii); iterate 4 exact rfl)
  | (apply w_build1; exact rfl; exact rfl; (first | exact one_val rfl rfl | exact one_ints | exact one_intss | exact one_own rfl True.intro))
  | (apply w_build2; exact rfl; exact rfl; exact rfl; (first | exact one_val rfl rfl | exact one_ints | exact one_intss | exact one_own rfl True.intro); (first | exact one_val rfl rfl | exact one_ints | exact one_intss | exact one_own rfl True.intro))
  | (apply w_bs0; iterate 1 exact rfl)
  | (apply w_appn; exact rfl; exact rfl; (first | exact .ints _ | exact .sli rfl | exact .orow rfl | exact .nil | exact .osub rfl (by simp; omega)); exact rfl)
  | (apply w_alst; iterate 2 exact rfl)
  | (apply w_alone; iterate 3 exact rfl)
  | (apply w_mkr; exact rfl; exact rfl; rotate_left 3; exact rfl; rotate_left 1)
  | (apply w_sti; exact rfl; exact rfl; rotate_left 1; exact rfl; rotate_left 2)
  | (apply w_stst; iterate 5 exact rfl)
  | (apply w_stbv; iterate 6 exact rfl)
  | (apply w_stbo; exact rfl; exact rfl; exact rfl; exact rfl; exact rfl; exact True.intro)
  | ((apply AOps.splitB; exact rfl; exact rfl) <;> intro h)
  | apply AllOf.nil
  | (apply AllOf.cons; exact rfl)
  | (apply AAny.take; exact rfl; exact rfl; kernel_rfl; kernel_rfl)
  | (apply AAny.all; exact rfl)
  | (apply AAny.done; exact rfl)
  | (apply inI_of <;> omega)
  | omega
  | (simp <;> omega))
    rw [hnb, show (0 : Int) - geti W v = -geti W v by omega]
    generalize hNv : nearL E v = nv at *
    refine AWp.loop (ι := Nat × WS × Int × Int) (fun x => ⟨81, [(0, .optr 1 0), (1, .i v), (4, .i x.2.2.1), (5, .i x.2.2.2), (28, .ints nv), (29, .i nv.length), (30, .i x.1)]⟩) (fun x => [.keep 5 K, .bx 83 [.ro (roI vW W), .ro (roN vN (nbs W E)), .own 2, .own 3, .own 4, .b x.2.1.l], .sli 2 x.2.1.f, .sli 2 x.2.1.g, .slr 4 (bL x.2.1.s)])
      (fun x => x.1 ≤ nv.length ∧ lpF (visF W (nearL E) k) (nv.drop x.1) x.2.1 x.2.2.1 x.2.2.2 = T ∧ WOk W.length x.2.1 ∧ x.2.1.cnt ≤ k ∧ inM x.2.2.1 ∧ inM x.2.2.2) (fun x => nv.length - x.1) (0, s.mark v, 1, -geti W v) ⟨by simp only; omega, hT, okm, by simp only; omega, by simp only [inM]; omega, by simp only [inM]; omega⟩ ⟨lee rfl (by (repeat (first | exact le_nil | refine le_eq rfl rfl ?_ | refine le_eq rfl (congrArg AV.i (by omega)) ?_))), by (repeat (first | exact lo_nil | refine lo_dead ?_ | refine lo_eq rfl ?_)), rfl, (by first | exact rfl | (simp [AO.lim, AV.lim, bL_lim]; done))⟩ ?_
    rintro ⟨i, t, p, r⟩ ⟨i0, i1, i2, i3, i4, i5⟩
    simp only at i0 i1 i2 i3 i4 i5
    have hvo' := hvo
    have lt1 := i2.ls
    have lt2 := i2.lf
    have lt3 := i2.lg
    by_cases hi : i < nv.length
    · obtain ⟨c0, c1⟩ := hrng i hi
      rw [drop_geti hi] at i1
      cases hsc : t.sn (geti nv (i : Nat)) with
      | true =>
        rw [lpF_seen hsc] at i1
        rw [sn_get] at hsc
        repeat' (first
  | (apply AOps.nil; try simp only [List.nil_append, List.cons_append, List.set_cons_zero, List.set_cons_succ, List.length_cons, List.length_nil, Nat.reduceAdd, AV.sh, AV.sh1, AV.sh0, AO.sh, List.map_cons, List.map_nil, Nat.zero_add, Nat.add_zero, setAll])
  | ((apply AOps.splitP; exact rfl; exact rfl) <;> intro h)
  | ((apply AOps.splitN; exact rfl; exact rfl) <;> intro h)
  | (apply w_move; exact rfl; exact rfl)
  | (apply w_assign; exact rfl; exact rfl)
  | apply AWp.seq
  | apply AWp.region
  | ((apply AWp.condP; exact rfl) <;> intro h)
  | ((apply AWp.condN; exact rfl) <;> intro h)
  | (apply AWp.condT; exact rfl)
  | (apply AWp.condF; exact rfl)
  | ((apply AWp.condB; exact rfl) <;> intro h)
  | apply AWp.block
  | apply AWp.ret
  | apply AWp.exit
  | apply AWp.skip
  | (apply if_pos'; exact rfl)
  | (apply if_neg'; decide)
  | (apply w_skip; exact rfl)
  | (apply w_pickT; exact rfl; exact rfl; exact rfl)
  | (apply w_pickF; exact rfl; exact rfl; exact rfl)
  | (apply w_lenb; iterate 3 exact rfl)
  | (apply w_len; exact rfl; exact rfl; first | exact .ints _ | exact .intss _ | exact .sli rfl | exact .sls rfl | exact .slr rfl | exact .orow rfl | exact .nil)
  | (apply w_mkb; exact rfl; exact rfl; rotate_left 3; exact rfl; rotate_left 1)
  | (apply w_idxb; iterate 4 exact rfl)
  | (apply w_ldbl; iterate 4 exact rfl)
  | (apply w_stb; exact rfl; exact rfl; rotate_left 1; exact rfl; rotate_left 1)
  | (apply w_ldbi; iterate 5 exact rfl)
  | (apply w_ldbn; iterate 5 exact rfl)
  | ((first | apply w_nilck | apply w_convu | apply w_convi | apply w_not | apply w_neg | apply w_conv | apply w_build0 | apply w_bs1 | apply w_boxa); iterate 2 exact rfl)
  | ((first | apply w_shr1 | apply w_lss | apply w_leq | apply w_gtr | apply w_geq | apply w_eql | apply w_neq | apply w_add | apply w_sub | apply w_mul | apply w_idx | apply w_ld | apply w_fld | apply w_fa | apply w_extv | apply w_min | apply w_max | apply w_slhi | apply w_sllo | apply w_bs2); iterate 3 exact rfl)
  | omega
  | ((first | apply w_eqlb | apply w_neqb | apply w_idxs | apply w_lds | apply w_ext); iterate 3 exact rfl)
  | (apply w_rem; exact rfl; exact rfl; exact rfl; (focus (omega; done)); (focus (omega; done)))
  | (apply w_quo; exact rfl; exact rfl; exact rfl; (focus (omega; done)); (focus (omega; done)))
  | (apply w_remT; exact rfl; exact rfl; exact rfl)
  | (apply w_quoT; exact rfl; exact rfl; exact rfl)
  | (apply w_idxo; exact rfl; exact rfl; (first | exact .sli rfl | exact .sls rfl | exact .slr rfl); exact rfl)
  | ((first | apply w_idxr | apply w_ldr); iterate 4 exact rfl)
  | (apply w_ldo; iterate 4 exact rfl)
  | (apply w_ldls; iterate 4 exact rfl)
  | (apply w_ldrp; iterate 4 exact rfl)
  | (apply w_ldb; iterate 5 exact rfl)
  | (apply w_ldst; iterate 5 exact rfl)
  | ((first | apply w_sllh | apply w_stbi); iterate 4 exact rfl)
  | ((first | apply w_oslo | apply w_oshi | apply w_stbii); iterate 4 exact rfl)
  | (apply w_build1; exact rfl; exact rfl; (first | exact one_val rfl rfl | exact one_ints | exact one_intss | exact one_own rfl True.intro))
  | (apply w_build2; exact rfl; exact rfl; exact rfl; (first | exact one_val rfl rfl | exact one_ints | exact one_intss | exact one_own rfl True.intro); (first | exact one_val rfl rfl | exact one_ints | exact one_intss | exact one_own rfl True.intro))
  | (apply w_bs0; iterate 1 exact rfl)
  | (apply w_appn; exact rfl; exact rfl; (first | exact .ints _ | exact .sli rfl | exact .orow rfl | exact .nil | exact .osub rfl (by simp; omega)); exact rfl)
  | (apply w_alst; iterate 2 exact rfl)
  | (apply w_alone; iterate 3 exact rfl)
  | (apply w_mkr; exact rfl; exact rfl; rotate_left 3; exact rfl; rotate_left 1)
  | (apply w_sti; exact rfl; exact rfl; rotate_left 1; exact rfl; rotate_left 2)
  | (apply w_stst; iterate 5 exact rfl)
  | (apply w_stbv; iterate 6 exact rfl)
  | (apply w_stbo; exact rfl; exact rfl; exact rfl; exact rfl; exact rfl; exact True.intro)
  | ((apply AOps.splitB; exact rfl; exact rfl) <;> intro h)
  | apply AllOf.nil
  | (apply AllOf.cons; exact rfl)
  | (apply AAny.take; exact rfl; exact rfl; kernel_rfl; kernel_rfl)
  | (apply AAny.all; exact rfl)
  | (apply AAny.done; exact rfl)
  | (apply inI_of <;> omega)
  | omega
  | (simp <;> omega))
        all_goals first | exact ⟨(i + 1, t, p, r), ⟨by simp only; omega, i1, i2, i3, i4, i5⟩, by simp only; omega, ⟨lee rfl (by (repeat (first | exact le_nil | refine le_eq rfl rfl ?_ | refine le_eq rfl (congrArg AV.i (by omega)) ?_))), by (repeat (first | exact lo_nil | refine lo_dead ?_ | refine lo_eq rfl ?_)), rfl, (by first | exact rfl | (simp [AO.lim, AV.lim, bL_lim]; done))⟩⟩ | (exfalso; simp_all; done)
      | false =>
        obtain ⟨u1, u2⟩ := hvo (geti nv (i : Nat)) t i2 i3 ⟨c0, c1⟩ hsc
        have u3 : (visF W (nearL E) k (geti nv (i : Nat)) t).cnt ≤ k := Nat.le_trans u2.cnt i3
        have hcall := ih (geti nv (i : Nat)) t i2 i3 ⟨c0, c1⟩ hsc
        have hnew := fun ho => lpF_new (vis := visF W (nearL E) k) (cs := nv.drop (i + 1)) (p := p) (r := r) hsc ho
        have hbig := fun ho => lpF_big (vis := visF W (nearL E) k) (cs := nv.drop (i + 1)) (p := p) (r := r) hsc ho
        rw [sn_get] at hsc
        generalize visF W (nearL E) k (geti nv (i : Nat)) t = u at *
        have lu1 := u1.ls
        have lu2 := u1.lf
        have lu3 := u1.lg
        have hst := step_c W (nbs W E) u p r (geti u.f (geti nv (i : Nat))) (geti u.g (geti nv (i : Nat))) i4 i5 (geti_memo lu2 u1.bf ⟨c0, c1⟩) (geti_memo lu3 u1.bg ⟨c0, c1⟩)
        repeat' (first
  | (apply AOps.nil; try simp only [List.nil_append, List.cons_append, List.set_cons_zero, List.set_cons_succ, List.length_cons, List.length_nil, Nat.reduceAdd, AV.sh, AV.sh1, AV.sh0, AO.sh, List.map_cons, List.map_nil, Nat.zero_add, Nat.add_zero, setAll])
  | ((apply AOps.splitP; exact rfl; exact rfl) <;> intro h)
  | ((apply AOps.splitN; exact rfl; exact rfl) <;> intro h)
  | (apply w_move; exact rfl; exact rfl)
  | (apply w_assign; exact rfl; exact rfl)
  | apply AWp.seq
  | apply AWp.region
  | ((apply AWp.condP; exact rfl) <;> intro h)
  | ((apply AWp.condN; exact rfl) <;> intro h)
  | (apply AWp.condT; exact rfl)
  | (apply AWp.condF; exact rfl)
  | ((apply AWp.condB; exact rfl) <;> intro h)
  | apply AWp.block
  | apply AWp.ret
  | apply AWp.exit
  | apply AWp.skip
  | (apply if_pos'; exact rfl)
  | (apply if_neg'; decide)
  | (apply w_skip; exact rfl)
  | (apply w_pickT; exact rfl; exact rfl; exact rfl)
  | (apply w_pickF; exact rfl; exact rfl; exact rfl)
  | (apply w_lenb; iterate 3 exact rfl)
  | (apply w_len; exact rfl; exact rfl; first | exact .ints _ | exact .intss _ | exact .sli rfl | exact .sls rfl | exact .slr rfl | exact .orow rfl | exact .nil)
  | (apply w_mkb; exact rfl; exact rfl; rotate_left 3; exact rfl; rotate_left 1)
  | (apply w_idxb; iterate 4 exact rfl)
  | (apply w_ldbl; iterate 4 exact rfl)
  | (apply w_stb; exact rfl; exact rfl; rotate_left 1; exact rfl; rotate_left 1)
  | (apply w_ldbi; iterate 5 exact rfl)
  | (apply w_ldbn; iterate 5 exact rfl)
  | ((first | apply w_nilck | apply w_convu | apply w_convi | apply w_not | apply w_neg | apply w_conv | apply w_build0 | apply w_bs1 | apply w_boxa); iterate 2 exact rfl)
  | ((first | apply w_shr1 | apply w_lss | apply w_leq | apply w_gtr | apply w_geq | apply w_eql | apply w_neq | apply w_add | apply w_sub | apply w_mul | apply w_idx | apply w_ld | apply w_fld | apply w_fa | apply w_extv | apply w_min | apply w_max | apply w_slhi | apply w_sllo | apply w_bs2); iterate 3 exact rfl)
  | (apply w_callb (hcall); exact rfl; exact rfl; exact rfl; exact rfl; exact rfl; exact rfl; exact rfl; (first | exact rdI_ro _ _ | exact rdI_ints _); (first | exact rdN_ro _ _ | exact rdN_intss _); exact rfl; try simp only [List.nil_append, List.cons_append, List.set_cons_zero, List.set_cons_succ, List.length_cons, List.length_nil, Nat.reduceAdd, AV.sh, AV.sh1, AV.sh0, AO.sh, List.map_cons, List.map_nil, Nat.zero_add, Nat.add_zero, setAll])
  | omega
  | ((first | apply w_eqlb | apply w_neqb | apply w_idxs | apply w_lds | apply w_ext); iterate 3 exact rfl)
  | (apply w_rem; exact rfl; exact rfl; exact rfl; (focus (omega; done)); (focus (omega; done)))
  | (apply w_quo; exact rfl; exact rfl; exact rfl; (focus (omega; done)); (focus (omega; done)))
  | (apply w_remT; exact rfl; exact rfl; exact rfl)
  | (apply w_quoT; exact rfl; exact rfl; exact rfl)
  | (apply w_idxo; exact rfl; exact rfl; (first | exact .sli rfl | exact .sls rfl | exact .slr rfl); exact rfl)
  | ((first | apply w_idxr | apply w_ldr); iterate 4 exact rfl)
  | (apply w_ldo; iterate 4 exact rfl)
  | (apply w_ldls; iterate 4 exact rfl)
  | (apply w_ldrp; iterate 4 exact rfl)
  | (apply w_ldb; iterate 5 exact rfl)
  | (apply w_ldst; iterate 5 exact rfl)
  | ((first | apply w_sllh | apply w_stbi); iterate 4 exact rfl)
  | ((first | apply w_oslo | apply w_oshi | apply w_stbii); iterate 4 exact rfl)
  | (apply w_build1; exact rfl; exact rfl; (first | exact one_val rfl rfl | exact one_ints | exact one_intss | exact one_own rfl True.intro))
  | (apply w_build2; exact rfl; exact rfl; exact rfl; (first | exact one_val rfl rfl | exact one_ints | exact one_intss | exact one_own rfl True.intro); (first | exact one_val rfl rfl | exact one_ints | exact one_intss | exact one_own rfl True.intro))
  | (apply w_bs0; iterate 1 exact rfl)
  | (apply w_appn; exact rfl; exact rfl; (first | exact .ints _ | exact .sli rfl | exact .orow rfl | exact .nil | exact .osub rfl (by simp; omega)); exact rfl)
  | (apply w_alst; iterate 2 exact rfl)
  | (apply w_alone; iterate 3 exact rfl)
  | (apply w_mkr; exact rfl; exact rfl; rotate_left 3; exact rfl; rotate_left 1)
  | (apply w_sti; exact rfl; exact rfl; rotate_left 1; exact rfl; rotate_left 2)
  | (apply w_stst; iterate 5 exact rfl)
  | (apply w_stbv; iterate 6 exact rfl)
  | (apply w_stbo; exact rfl; exact rfl; exact rfl; exact rfl; exact rfl; exact True.intro)
  | ((apply AOps.splitB; exact rfl; exact rfl) <;> intro h)
  | apply AllOf.nil
  | (apply AllOf.cons; exact rfl)
  | (apply AAny.take; exact rfl; exact rfl; kernel_rfl; kernel_rfl)
  | (apply AAny.all; exact rfl)
  | (apply AAny.done; exact rfl)
  | (apply inI_of <;> omega)
  | omega
  | (simp <;> omega))
        all_goals try (exfalso; simp_all; done)
        by_cases hok : okS p r (geti u.f (geti nv (i : Nat))) (geti u.g (geti nv (i : Nat))) = true
        · have hn1 := hnew hok
          rw [hn1] at i1
          have e1 : stS u p r (geti u.f (geti nv (i : Nat))) (geti u.g (geti nv (i : Nat))) = u := by unfold stS; rw [if_pos hok]
          have e2 : stV p r (geti u.f (geti nv (i : Nat))) (geti u.g (geti nv (i : Nat))) = .tuple #[.int .i64 (p * geti u.f (geti nv (i : Nat))), .int .i64 (r * geti u.f (geti nv (i : Nat)) - p * geti u.g (geti nv (i : Nat)))] := by unfold stV; rw [if_pos hok]
          rw [e1, e2] at hst
          refine AWp.regionG [] (by kernel_rfl) (envC := ⟨81, [(0, .optr 1 0), (1, .i v), (4, .i (p * geti u.f (geti nv (i : Nat)))), (5, .i (r * geti u.f (geti nv (i : Nat)) - p * geti u.g (geti nv (i : Nat)))), (28, .ints nv), (29, .i nv.length), (30, .i i)]⟩) (osC := [.keep 5 K, .bx 83 [.ro (roI vW W), .ro (roN vN (nbs W E)), .own 2, .own 3, .own 4, .b u.l], .sli 2 u.f, .sli 2 u.g, .slr 4 (bL u.s)]) rfl (by first | exact rfl | (simp [AO.lim, AV.lim, bL_lim]; done)) ?_ ?_
          · repeat' (first
  | (apply AOps.nil; try simp only [List.nil_append, List.cons_append, List.set_cons_zero, List.set_cons_succ, List.length_cons, List.length_nil, Nat.reduceAdd, AV.sh, AV.sh1, AV.sh0, AO.sh, List.map_cons, List.map_nil, Nat.zero_add, Nat.add_zero, setAll])
  | ((apply AOps.splitP; exact rfl; exact rfl) <;> intro h)
  | ((apply AOps.splitN; exact rfl; exact rfl) <;> intro h)
  | (apply w_move; exact rfl; exact rfl)
  | (apply w_assign; exact rfl; exact rfl)
  | apply AWp.seq
  | apply AWp.region
  | ((apply AWp.condP; exact rfl) <;> intro h)
  | ((apply AWp.condN; exact rfl) <;> intro h)
  | (apply AWp.condT; exact rfl)
  | (apply AWp.condF; exact rfl)
  | ((apply AWp.condB; exact rfl) <;> intro h)
  | apply AWp.block
  | apply AWp.ret
  | apply AWp.exit
  | apply AWp.skip
  | (apply AWp.regionQ; kernel_rfl; kernel_rfl)
  | (apply if_pos'; exact rfl)
  | (apply if_neg'; decide)
  | (apply w_skip; exact rfl)
  | (apply w_pickT; exact rfl; exact rfl; exact rfl)
  | (apply w_pickF; exact rfl; exact rfl; exact rfl)
  | (apply w_lenb; iterate 3 exact rfl)
  | (apply w_len; exact rfl; exact rfl; first | exact .ints _ | exact .intss _ | exact .sli rfl | exact .sls rfl | exact .slr rfl | exact .orow rfl | exact .nil)
  | (apply w_mkb; exact rfl; exact rfl; rotate_left 3; exact rfl; rotate_left 1)
  | (apply w_idxb; iterate 4 exact rfl)
  | (apply w_ldbl; iterate 4 exact rfl)
  | (apply w_stb; exact rfl; exact rfl; rotate_left 1; exact rfl; rotate_left 1)
  | (apply w_ldbi; iterate 5 exact rfl)
  | (apply w_ldbn; iterate 5 exact rfl)
  | apply AllOfG.nil
  | (apply AllOfG.consQ; exact rfl; exact rfl)
  | (apply AllOfG.consS; exact rfl; exact rfl)
  | (apply AAnyG.takeW; exact rfl; exact rfl; kernel_rfl; kernel_rfl)
  | (apply AAnyG.takeL; exact rfl; exact rfl; kernel_rfl)
  | (apply AAnyG.all; exact rfl)
  | (apply AAnyG.done; exact rfl)
  | ((first | apply w_nilck | apply w_convu | apply w_convi | apply w_not | apply w_neg | apply w_conv | apply w_build0 | apply w_bs1 | apply w_boxa); iterate 2 exact rfl)
  | ((first | apply w_shr1 | apply w_lss | apply w_leq | apply w_gtr | apply w_geq | apply w_eql | apply w_neq | apply w_add | apply w_sub | apply w_mul | apply w_idx | apply w_ld | apply w_fld | apply w_fa | apply w_extv | apply w_min | apply w_max | apply w_slhi | apply w_sllo | apply w_bs2); iterate 3 exact rfl)
  | (apply w_callb (hst); exact rfl; exact rfl; exact rfl; exact rfl; exact rfl; exact rfl; exact rfl; (first | exact rdI_ro _ _ | exact rdI_ints _); (first | exact rdN_ro _ _ | exact rdN_intss _); exact rfl; try simp only [List.nil_append, List.cons_append, List.set_cons_zero, List.set_cons_succ, List.length_cons, List.length_nil, Nat.reduceAdd, AV.sh, AV.sh1, AV.sh0, AO.sh, List.map_cons, List.map_nil, Nat.zero_add, Nat.add_zero, setAll])
  | omega
  | ((first | apply w_eqlb | apply w_neqb | apply w_idxs | apply w_lds | apply w_ext); iterate 3 exact rfl)
  | (apply w_rem; exact rfl; exact rfl; exact rfl; (focus (omega; done)); (focus (omega; done)))
  | (apply w_quo; exact rfl; exact rfl; exact rfl; (focus (omega; done)); (focus (omega; done)))
  | (apply w_remT; exact rfl; exact rfl; exact rfl)
  | (apply w_quoT; exact rfl; exact rfl; exact rfl)
  | (apply w_idxo; exact rfl; exact rfl; (first | exact .sli rfl | exact .sls rfl | exact .slr rfl); exact rfl)
  | ((first | apply w_idxr | apply w_ldr); iterate 4 exact rfl)
  | (apply w_ldo; iterate 4 exact rfl)
  | (apply w_ldls; iterate 4 exact rfl)
  | (apply w_ldrp; iterate 4 exact rfl)
  | (apply w_ldb; iterate 5 exact rfl)
  | (apply w_ldst; iterate 5 exact rfl)
  | ((first | apply w_sllh | apply w_stbi); iterate 4 exact rfl)
  | ((first | apply w_oslo | apply w_oshi | apply w_stbii); iterate 4 exact rfl)
  | (apply w_build1; exact rfl; exact rfl; (first | exact one_val rfl rfl | exact one_ints | exact one_intss | exact one_own rfl True.intro))
  | (apply w_build2; exact rfl; exact rfl; exact rfl; (first | exact one_val rfl rfl | exact one_ints | exact one_intss | exact one_own rfl True.intro); (first | exact one_val rfl rfl | exact one_ints | exact one_intss | exact one_own rfl True.intro))
  | (apply w_bs0; iterate 1 exact rfl)
  | (apply w_appn; exact rfl; exact rfl; (first | exact .ints _ | exact .sli rfl | exact .orow rfl | exact .nil | exact .osub rfl (by simp; omega)); exact rfl)
  | (apply w_alst; iterate 2 exact rfl)
  | (apply w_alone; iterate 3 exact rfl)
  | (apply w_mkr; exact rfl; exact rfl; rotate_left 3; exact rfl; rotate_left 1)
  | (apply w_sti; exact rfl; exact rfl; rotate_left 1; exact rfl; rotate_left 2)
  | (apply w_stst; iterate 5 exact rfl)
  | (apply w_stbv; iterate 6 exact rfl)
  | (apply w_stbo; exact rfl; exact rfl; exact rfl; exact rfl; exact rfl; exact True.intro)
  | ((apply AOps.splitB; exact rfl; exact rfl) <;> intro h)
  | apply AllOf.nil
  | (apply AllOf.cons; exact rfl)
  | (apply AAny.take; exact rfl; exact rfl; kernel_rfl; kernel_rfl)
  | (apply AAny.all; exact rfl)
  | (apply AAny.done; exact rfl)
  | (apply inI_of <;> omega)
  | omega
  | (simp <;> omega))
            all_goals (first | (apply Or.inl; refine ⟨lee rfl ?_, ?_, rfl, (by first | exact rfl | (simp [AO.lim, AV.lim, bL_lim]; done))⟩; (focus ((repeat (first | exact le_nil | refine le_eq rfl rfl ?_ | (refine le_eq rfl (congrArg AV.i ?_) ?_; (focus (omega; done))))); done)); (focus ((repeat (first | exact lo_nil | refine lo_dead ?_ | refine lo_eq rfl ?_ | refine lo_eq (congrArg (AO.slr _) (bL_ren _ _)) ?_)); done))))
          repeat' (first
  | (apply AOps.nil; try simp only [List.nil_append, List.cons_append, List.set_cons_zero, List.set_cons_succ, List.length_cons, List.length_nil, Nat.reduceAdd, AV.sh, AV.sh1, AV.sh0, AO.sh, List.map_cons, List.map_nil, Nat.zero_add, Nat.add_zero, setAll])
  | ((apply AOps.splitP; exact rfl; exact rfl) <;> intro h)
  | ((apply AOps.splitN; exact rfl; exact rfl) <;> intro h)
  | (apply w_move; exact rfl; exact rfl)
  | (apply w_assign; exact rfl; exact rfl)
  | apply AWp.seq
  | apply AWp.region
  | ((apply AWp.condP; exact rfl) <;> intro h)
  | ((apply AWp.condN; exact rfl) <;> intro h)
  | (apply AWp.condT; exact rfl)
  | (apply AWp.condF; exact rfl)
  | ((apply AWp.condB; exact rfl) <;> intro h)
  | apply AWp.block
  | apply AWp.ret
  | apply AWp.exit
  | apply AWp.skip
  | (apply if_pos'; exact rfl)
  | (apply if_neg'; decide)
  | (apply w_skip; exact rfl)
  | (apply w_pickT; exact rfl; exact rfl; exact rfl)
  | (apply w_pickF; exact rfl; exact rfl; exact rfl)
  | (apply w_len; exact rfl; exact rfl; first | exact .ints _ | exact .intss _ | exact .sli rfl | exact .sls rfl | exact .slr rfl | exact .orow rfl | exact .nil)
  | omega
  | ((first | apply w_lss | apply w_leq | apply w_gtr | apply w_geq | apply w_eql | apply w_neq | apply w_add | apply w_sub | apply w_mul | apply w_idx | apply w_ld | apply w_fld | apply w_fa | apply w_extv | apply w_min | apply w_max | apply w_slhi | apply w_sllo | apply w_bs2); iterate 3 exact rfl)
  | ((first | apply w_eqlb | apply w_neqb | apply w_idxs | apply w_lds | apply w_ext); iterate 3 exact rfl)
  | (apply w_rem; exact rfl; exact rfl; exact rfl; (focus (omega; done)); (focus (omega; done)))
  | (apply w_quo; exact rfl; exact rfl; exact rfl; (focus (omega; done)); (focus (omega; done)))
  | (apply w_remT; exact rfl; exact rfl; exact rfl)
  | (apply w_quoT; exact rfl; exact rfl; exact rfl)
  | ((first | apply w_not | apply w_neg | apply w_conv | apply w_build0 | apply w_bs1 | apply w_boxa); iterate 2 exact rfl)
  | (apply w_idxo; exact rfl; exact rfl; (first | exact .sli rfl | exact .sls rfl | exact .slr rfl); exact rfl)
  | ((first | apply w_idxr | apply w_ldr); iterate 4 exact rfl)
  | (apply w_ldo; iterate 4 exact rfl)
  | (apply w_ldls; iterate 4 exact rfl)
  | (apply w_ldrp; iterate 4 exact rfl)
  | (apply w_ldb; iterate 5 exact rfl)
  | (apply w_ldst; iterate 5 exact rfl)
  | ((first | apply w_sllh | apply w_stbi); iterate 4 exact rfl)
  | ((first | apply w_oslo | apply w_oshi | apply w_stbii); iterate 4 exact rfl)
  | (apply w_build1; exact rfl; exact rfl; (first | exact one_val rfl rfl | exact one_ints | exact one_intss | exact one_own rfl True.intro))
  | (apply w_build2; exact rfl; exact rfl; exact rfl; (first | exact one_val rfl rfl | exact one_ints | exact one_intss | exact one_own rfl True.intro); (first | exact one_val rfl rfl | exact one_ints | exact one_intss | exact one_own rfl True.intro))
  | (apply w_bs0; iterate 1 exact rfl)
  | (apply w_appn; exact rfl; exact rfl; (first | exact .ints _ | exact .sli rfl | exact .orow rfl | exact .nil | exact .osub rfl (by simp; omega)); exact rfl)
  | (apply w_alst; iterate 2 exact rfl)
  | (apply w_alone; iterate 3 exact rfl)
  | (apply w_mkr; exact rfl; exact rfl; rotate_left 3; exact rfl; rotate_left 1)
  | (apply w_sti; exact rfl; exact rfl; rotate_left 1; exact rfl; rotate_left 2)
  | (apply w_stst; iterate 5 exact rfl)
  | (apply w_stbv; iterate 6 exact rfl)
  | (apply w_stbo; exact rfl; exact rfl; exact rfl; exact rfl; exact rfl; exact True.intro)
  | ((apply AOps.splitB; exact rfl; exact rfl) <;> intro h)
  | apply AllOf.nil
  | (apply AllOf.cons; exact rfl)
  | (apply AAny.take; exact rfl; exact rfl; kernel_rfl; kernel_rfl)
  | (apply AAny.all; exact rfl)
  | (apply AAny.done; exact rfl)
  | (apply inI_of <;> omega)
  | omega
  | (simp <;> omega))
          exact ⟨(i + 1, u, p * geti u.f (geti nv (i : Nat)), r * geti u.f (geti nv (i : Nat)) - p * geti u.g (geti nv (i : Nat))), ⟨by simp only; omega, i1, u1, u3, (okS_in hok).1, (okS_in hok).2⟩, by simp only; omega, ⟨lee rfl (by (repeat (first | exact le_nil | refine le_eq rfl rfl ?_ | refine le_eq rfl (congrArg AV.i (by omega)) ?_))), by (repeat (first | exact lo_nil | refine lo_dead ?_ | refine lo_eq rfl ?_)), rfl, (by first | exact rfl | (simp [AO.lim, AV.lim, bL_lim]; done))⟩⟩
        · have hn1 := hbig hok
          rw [hn1] at i1
          have e1 : stS u p r (geti u.f (geti nv (i : Nat))) (geti u.g (geti nv (i : Nat))) = u.big := by unfold stS; rw [if_neg hok]
          have e2 : stV p r (geti u.f (geti nv (i : Nat))) (geti u.g (geti nv (i : Nat))) = .tuple #[.int .i64 0, .int .i64 0] := by unfold stV; rw [if_neg hok]
          rw [e1, e2] at hst
          refine AWp.regionG [] (by kernel_rfl) (envC := ⟨81, [(0, .optr 1 0), (1, .i v), (4, .i 0), (5, .i 0), (28, .ints nv), (29, .i nv.length), (30, .i i)]⟩) (osC := [.keep 5 K, .bx 83 [.ro (roI vW W), .ro (roN vN (nbs W E)), .own 2, .own 3, .own 4, .b u.big.l], .sli 2 u.big.f, .sli 2 u.big.g, .slr 4 (bL u.big.s)]) rfl (by first | exact rfl | (simp [AO.lim, AV.lim, bL_lim]; done)) ?_ ?_
          · repeat' (first
  | (apply AOps.nil; try simp only [List.nil_append, List.cons_append, List.set_cons_zero, List.set_cons_succ, List.length_cons, List.length_nil, Nat.reduceAdd, AV.sh, AV.sh1, AV.sh0, AO.sh, List.map_cons, List.map_nil, Nat.zero_add, Nat.add_zero, setAll])
  | ((apply AOps.splitP; exact rfl; exact rfl) <;> intro h)
  | ((apply AOps.splitN; exact rfl; exact rfl) <;> intro h)
  | (apply w_move; exact rfl; exact rfl)
  | (apply w_assign; exact rfl; exact rfl)
  | apply AWp.seq
  | apply AWp.region
  | ((apply AWp.condP; exact rfl) <;> intro h)
  | ((apply AWp.condN; exact rfl) <;> intro h)
  | (apply AWp.condT; exact rfl)
  | (apply AWp.condF; exact rfl)
  | ((apply AWp.condB; exact rfl) <;> intro h)
  | apply AWp.block
  | apply AWp.ret
  | apply AWp.exit
  | apply AWp.skip
  | (apply AWp.regionQ; kernel_rfl; kernel_rfl)
  | (apply if_pos'; exact rfl)
  | (apply if_neg'; decide)
  | (apply w_skip; exact rfl)
  | (apply w_pickT; exact rfl; exact rfl; exact rfl)
  | (apply w_pickF; exact rfl; exact rfl; exact rfl)
  | (apply w_lenb; iterate 3 exact rfl)
  | (apply w_len; exact rfl; exact rfl; first | exact .ints _ | exact .intss _ | exact .sli rfl | exact .sls rfl | exact .slr rfl | exact .orow rfl | exact .nil)
  | (apply w_mkb; exact rfl; exact rfl; rotate_left 3; exact rfl; rotate_left 1)
  | (apply w_idxb; iterate 4 exact rfl)
  | (apply w_ldbl; iterate 4 exact rfl)
  | (apply w_stb; exact rfl; exact rfl; rotate_left 1; exact rfl; rotate_left 1)
  | (apply w_ldbi; iterate 5 exact rfl)
  | (apply w_ldbn; iterate 5 exact rfl)
  | apply AllOfG.nil
  | (apply AllOfG.consQ; exact rfl; exact rfl)
  | (apply AllOfG.consS; exact rfl; exact rfl)
  | (apply AAnyG.takeW; exact rfl; exact rfl; kernel_rfl; kernel_rfl)
  | (apply AAnyG.takeL; exact rfl; exact rfl; kernel_rfl)
  | (apply AAnyG.all; exact rfl)
  | (apply AAnyG.done; exact rfl)
  | ((first | apply w_nilck | apply w_convu | apply w_convi | apply w_not | apply w_neg | apply w_conv | apply w_build0 | apply w_bs1 | apply w_boxa); iterate 2 exact rfl)
  | ((first | apply w_shr1 | apply w_lss | apply w_leq | apply w_gtr | apply w_geq | apply w_eql | apply w_neq | apply w_add | apply w_sub | apply w_mul | apply w_idx | apply w_ld | apply w_fld | apply w_fa | apply w_extv | apply w_min | apply w_max | apply w_slhi | apply w_sllo | apply w_bs2); iterate 3 exact rfl)
  | (apply w_callb (hst); exact rfl; exact rfl; exact rfl; exact rfl; exact rfl; exact rfl; exact rfl; (first | exact rdI_ro _ _ | exact rdI_ints _); (first | exact rdN_ro _ _ | exact rdN_intss _); exact rfl; try simp only [List.nil_append, List.cons_append, List.set_cons_zero, List.set_cons_succ, List.length_cons, List.length_nil, Nat.reduceAdd, AV.sh, AV.sh1, AV.sh0, AO.sh, List.map_cons, List.map_nil, Nat.zero_add, Nat.add_zero, setAll])
  | omega
  | ((first | apply w_eqlb | apply w_neqb | apply w_idxs | apply w_lds | apply w_ext); iterate 3 exact rfl)
  | (apply w_rem; exact rfl; exact rfl; exact rfl; (focus (omega; done)); (focus (omega; done)))
  | (apply w_quo; exact rfl; exact rfl; exact rfl; (focus (omega; done)); (focus (omega; done)))
  | (apply w_remT; exact rfl; exact rfl; exact rfl)
  | (apply w_quoT; exact rfl; exact rfl; exact rfl)
  | (apply w_idxo; exact rfl; exact rfl; (first | exact .sli rfl | exact .sls rfl | exact .slr rfl); exact rfl)
  | ((first | apply w_idxr | apply w_ldr); iterate 4 exact rfl)
  | (apply w_ldo; iterate 4 exact rfl)
  | (apply w_ldls; iterate 4 exact rfl)
  | (apply w_ldrp; iterate 4 exact rfl)
  | (apply w_ldb; iterate 5 exact rfl)
  | (apply w_ldst; iterate 5 exact rfl)
  | ((first | apply w_sllh | apply w_stbi); iterate 4 exact rfl)
  | ((first | apply w_oslo | apply w_oshi | apply w_stbii); iterate 4 exact rfl)
  | (apply w_build1; exact rfl; exact rfl; (first | exact one_val rfl rfl | exact one_ints | exact one_intss | exact one_own rfl True.intro))
  | (apply w_build2; exact rfl; exact rfl; exact rfl; (first | exact one_val rfl rfl | exact one_ints | exact one_intss | exact one_own rfl True.intro); (first | exact one_val rfl rfl | exact one_ints | exact one_intss | exact one_own rfl True.intro))
  | (apply w_bs0; iterate 1 exact rfl)
  | (apply w_appn; exact rfl; exact rfl; (first | exact .ints _ | exact .sli rfl | exact .orow rfl | exact .nil | exact .osub rfl (by simp; omega)); exact rfl)
  | (apply w_alst; iterate 2 exact rfl)
  | (apply w_alone; iterate 3 exact rfl)
  | (apply w_mkr; exact rfl; exact rfl; rotate_left 3; exact rfl; rotate_left 1)
  | (apply w_sti; exact rfl; exact rfl; rotate_left 1; exact rfl; rotate_left 2)
  | (apply w_stst; iterate 5 exact rfl)
  | (apply w_stbv; iterate 6 exact rfl)
  | (apply w_stbo; exact rfl; exact rfl; exact rfl; exact rfl; exact rfl; exact True.intro)
  | ((apply AOps.splitB; exact rfl; exact rfl) <;> intro h)
  | apply AllOf.nil
  | (apply AllOf.cons; exact rfl)
  | (apply AAny.take; exact rfl; exact rfl; kernel_rfl; kernel_rfl)
  | (apply AAny.all; exact rfl)
  | (apply AAny.done; exact rfl)
  | (apply inI_of <;> omega)
  | omega
  | (simp <;> omega))
            all_goals (first | (apply Or.inl; refine ⟨lee rfl ?_, ?_, rfl, (by first | exact rfl | (simp [AO.lim, AV.lim, bL_lim]; done))⟩; (focus ((repeat (first | exact le_nil | refine le_eq rfl rfl ?_ | (refine le_eq rfl (congrArg AV.i ?_) ?_; (focus (omega; done))))); done)); (focus ((repeat (first | exact lo_nil | refine lo_dead ?_ | refine lo_eq rfl ?_ | refine lo_eq (congrArg (AO.slr _) (bL_ren _ _)) ?_)); done))))
          repeat' (first
  | (apply AOps.nil; try simp only [List.nil_append, List.cons_append, List.set_cons_zero, List.set_cons_succ, List.length_cons, List.length_nil, Nat.reduceAdd, AV.sh, AV.sh1, AV.sh0, AO.sh, List.map_cons, List.map_nil, Nat.zero_add, Nat.add_zero, setAll])
  | ((apply AOps.splitP; exact rfl; exact rfl) <;> intro h)
  | ((apply AOps.splitN; exact rfl; exact rfl) <;> intro h)
  | (apply w_move; exact rfl; exact rfl)
  | (apply w_assign; exact rfl; exact rfl)
  | apply AWp.seq
  | apply AWp.region
  | ((apply AWp.condP; exact rfl) <;> intro h)
  | ((apply AWp.condN; exact rfl) <;> intro h)
  | (apply AWp.condT; exact rfl)
  | (apply AWp.condF; exact rfl)
  | ((apply AWp.condB; exact rfl) <;> intro h)
  | apply AWp.block
  | apply AWp.ret
  | apply AWp.exit
  | apply AWp.skip
  | (apply if_pos'; exact rfl)
  | (apply if_neg'; decide)
  | (apply w_skip; exact rfl)
  | (apply w_pickT; exact rfl; exact rfl; exact rfl)
  | (apply w_pickF; exact rfl; exact rfl; exact rfl)
  | (apply w_len; exact rfl; exact rfl; first | exact .ints _ | exact .intss _ | exact .sli rfl | exact .sls rfl | exact .slr rfl | exact .orow rfl | exact .nil)
  | omega
  | ((first | apply w_lss | apply w_leq | apply w_gtr | apply w_geq | apply w_eql | apply w_neq | apply w_add | apply w_sub | apply w_mul | apply w_idx | apply w_ld | apply w_fld | apply w_fa | apply w_extv | apply w_min | apply w_max | apply w_slhi | apply w_sllo | apply w_bs2); iterate 3 exact rfl)
  | ((first | apply w_eqlb | apply w_neqb | apply w_idxs | apply w_lds | apply w_ext); iterate 3 exact rfl)
  | (apply w_rem; exact rfl; exact rfl; exact rfl; (focus (omega; done)); (focus (omega; done)))
  | (apply w_quo; exact rfl; exact rfl; exact rfl; (focus (omega; done)); (focus (omega; done)))
  | (apply w_remT; exact rfl; exact rfl; exact rfl)
  | (apply w_quoT; exact rfl; exact rfl; exact rfl)
  | ((first | apply w_not | apply w_neg | apply w_conv | apply w_build0 | apply w_bs1 | apply w_boxa); iterate 2 exact rfl)
  | (apply w_idxo; exact rfl; exact rfl; (first | exact .sli rfl | exact .sls rfl | exact .slr rfl); exact rfl)
  | ((first | apply w_idxr | apply w_ldr); iterate 4 exact rfl)
  | (apply w_ldo; iterate 4 exact rfl)
  | (apply w_ldls; iterate 4 exact rfl)
  | (apply w_ldrp; iterate 4 exact rfl)
  | (apply w_ldb; iterate 5 exact rfl)
  | (apply w_ldst; iterate 5 exact rfl)
  | ((first | apply w_sllh | apply w_stbi); iterate 4 exact rfl)
  | ((first | apply w_oslo | apply w_oshi | apply w_stbii); iterate 4 exact rfl)
  | (apply w_build1; exact rfl; exact rfl; (first | exact one_val rfl rfl | exact one_ints | exact one_intss | exact one_own rfl True.intro))
  | (apply w_build2; exact rfl; exact rfl; exact rfl; (first | exact one_val rfl rfl | exact one_ints | exact one_intss | exact one_own rfl True.intro); (first | exact one_val rfl rfl | exact one_ints | exact one_intss | exact one_own rfl True.intro))
  | (apply w_bs0; iterate 1 exact rfl)
  | (apply w_appn; exact rfl; exact rfl; (first | exact .ints _ | exact .sli rfl | exact .orow rfl | exact .nil | exact .osub rfl (by simp; omega)); exact rfl)
  | (apply w_alst; iterate 2 exact rfl)
  | (apply w_alone; iterate 3 exact rfl)
  | (apply w_mkr; exact rfl; exact rfl; rotate_left 3; exact rfl; rotate_left 1)
  | (apply w_sti; exact rfl; exact rfl; rotate_left 1; exact rfl; rotate_left 2)
  | (apply w_stst; iterate 5 exact rfl)
  | (apply w_stbv; iterate 6 exact rfl)
  | (apply w_stbo; exact rfl; exact rfl; exact rfl; exact rfl; exact rfl; exact True.intro)
  | ((apply AOps.splitB; exact rfl; exact rfl) <;> intro h)
  | apply AllOf.nil
  | (apply AllOf.cons; exact rfl)
  | (apply AAny.take; exact rfl; exact rfl; kernel_rfl; kernel_rfl)
  | (apply AAny.all; exact rfl)
  | (apply AAny.done; exact rfl)
  | (apply inI_of <;> omega)
  | omega
  | (simp <;> omega))
          exact ⟨(i + 1, u.big, 0, 0), ⟨by simp only; omega, i1, ⟨u1.lf, u1.lg, u1.ls, u1.bf, u1.bg⟩, u3, inM0, inM0⟩, by simp only; omega, ⟨lee rfl (by (repeat (first | exact le_nil | refine le_eq rfl rfl ?_ | refine le_eq rfl (congrArg AV.i (by omega)) ?_))), by (repeat (first | exact lo_nil | refine lo_dead ?_ | refine lo_eq rfl ?_)), rfl, (by first | exact rfl | (simp [AO.lim, AV.lim, bL_lim]; done))⟩⟩
    · have ei : i = nv.length := by omega
      subst ei
      rw [List.drop_length] at i1
      subst i1
      unfold inM at i4 i5
      repeat' (first
  | (apply AOps.nil; try simp only [List.nil_append, List.cons_append, List.set_cons_zero, List.set_cons_succ, List.length_cons, List.length_nil, Nat.reduceAdd, AV.sh, AV.sh1, AV.sh0, AO.sh, List.map_cons, List.map_nil, Nat.zero_add, Nat.add_zero, setAll])
  | ((apply AOps.splitP; exact rfl; exact rfl) <;> intro h)
  | ((apply AOps.splitN; exact rfl; exact rfl) <;> intro h)
  | (apply w_move; exact rfl; exact rfl)
  | (apply w_assign; exact rfl; exact rfl)
  | apply AWp.seq
  | apply AWp.region
  | ((apply AWp.condP; exact rfl) <;> intro h)
  | ((apply AWp.condN; exact rfl) <;> intro h)
  | (apply AWp.condT; exact rfl)
  | (apply AWp.condF; exact rfl)
  | ((apply AWp.condB; exact rfl) <;> intro h)
  | apply AWp.block
  | apply AWp.ret
  | apply AWp.exit
  | apply AWp.skip
  | (apply if_pos'; exact rfl)
  | (apply if_neg'; decide)
  | (apply w_skip; exact rfl)
  | (apply w_pickT; exact rfl; exact rfl; exact rfl)
  | (apply w_pickF; exact rfl; exact rfl; exact rfl)
  | (apply w_lenb; iterate 3 exact rfl)
  | (apply w_len; exact rfl; exact rfl; first | exact .ints _ | exact .intss _ | exact .sli rfl | exact .sls rfl | exact .slr rfl | exact .orow rfl | exact .nil)
  | (apply w_mkb; exact rfl; exact rfl; rotate_left 3; exact rfl; rotate_left 1)
  | (apply w_idxb; iterate 4 exact rfl)
  | (apply w_ldbl; iterate 4 exact rfl)
  | (apply w_stb; exact rfl; exact rfl; rotate_left 1; exact rfl; rotate_left 1)
  | (apply w_ldbi; iterate 5 exact rfl)
  | (apply w_ldbn; iterate 5 exact rfl)
  | ((first | apply w_nilck | apply w_convu | apply w_convi | apply w_not | apply w_neg | apply w_conv | apply w_build0 | apply w_bs1 | apply w_boxa); iterate 2 exact rfl)
  | ((first | apply w_shr1 | apply w_lss | apply w_leq | apply w_gtr | apply w_geq | apply w_eql | apply w_neq | apply w_add | apply w_sub | apply w_mul | apply w_idx | apply w_ld | apply w_fld | apply w_fa | apply w_extv | apply w_min | apply w_max | apply w_slhi | apply w_sllo | apply w_bs2); iterate 3 exact rfl)
  | omega
  | ((first | apply w_eqlb | apply w_neqb | apply w_idxs | apply w_lds | apply w_ext); iterate 3 exact rfl)
  | (apply w_rem; exact rfl; exact rfl; exact rfl; (focus (omega; done)); (focus (omega; done)))
  | (apply w_quo; exact rfl; exact rfl; exact rfl; (focus (omega; done)); (focus (omega; done)))
  | (apply w_remT; exact rfl; exact rfl; exact rfl)
  | (apply w_quoT; exact rfl; exact rfl; exact rfl)
  | (apply w_idxo; exact rfl; exact rfl; (first | exact .sli rfl | exact .sls rfl | exact .slr rfl); exact rfl)
  | ((first | apply w_idxr | apply w_ldr); iterate 4 exact rfl)
  | (apply w_ldo; iterate 4 exact rfl)
  | (apply w_ldls; iterate 4 exact rfl)
  | (apply w_ldrp; iterate 4 exact rfl)
  | (apply w_ldb; iterate 5 exact rfl)
  | (apply w_ldst; iterate 5 exact rfl)
  | ((first | apply w_sllh | apply w_stbi); iterate 4 exact rfl)
  | ((first | apply w_oslo | apply w_oshi | apply w_stbii); iterate 4 exact rfl)
  | (apply w_build1; exact rfl; exact rfl; (first | exact one_val rfl rfl | exact one_ints | exact one_intss | exact one_own rfl True.intro))
  | (apply w_build2; exact rfl; exact rfl; exact rfl; (first | exact one_val rfl rfl | exact one_ints | exact one_intss | exact one_own rfl True.intro); (first | exact one_val rfl rfl | exact one_ints | exact one_intss | exact one_own rfl True.intro))
  | (apply w_bs0; iterate 1 exact rfl)
  | (apply w_appn; exact rfl; exact rfl; (first | exact .ints _ | exact .sli rfl | exact .orow rfl | exact .nil | exact .osub rfl (by simp; omega)); exact rfl)
  | (apply w_alst; iterate 2 exact rfl)
  | (apply w_alone; iterate 3 exact rfl)
  | (apply w_mkr; exact rfl; exact rfl; rotate_left 3; exact rfl; rotate_left 1)
  | (apply w_sti; exact rfl; exact rfl; rotate_left 1; exact rfl; rotate_left 2)
  | (apply w_stst; iterate 5 exact rfl)
  | (apply w_stbv; iterate 6 exact rfl)
  | (apply w_stbo; exact rfl; exact rfl; exact rfl; exact rfl; exact rfl; exact True.intro)
  | ((apply AOps.splitB; exact rfl; exact rfl) <;> intro h)
  | apply AllOf.nil
  | (apply AllOf.cons; exact rfl)
  | (apply AAny.take; exact rfl; exact rfl; kernel_rfl; kernel_rfl)
  | (apply AAny.all; exact rfl)
  | (apply AAny.done; exact rfl)
  | (apply inI_of <;> omega)
  | omega
  | (simp <;> omega))
      refine AWp.regionG [] (by kernel_rfl) (envC := ⟨81, [(0, .optr 1 0)]⟩) (osC := [.keep 5 K, .bx 83 [.ro (roI vW W), .ro (roN vN (nbs W E)), .own 2, .own 3, .own 4, .b t.l], .sli 2 (t.f.set v.toNat r), .sli 2 (t.g.set v.toNat p), .slr 4 (bL t.s)]) rfl (by first | exact rfl | (simp [AO.lim, AV.lim, bL_lim]; done)) ?_ ?_
      · repeat' (first
  | (apply AOps.nil; try simp only [List.nil_append, List.cons_append, List.set_cons_zero, List.set_cons_succ, List.length_cons, List.length_nil, Nat.reduceAdd, AV.sh, AV.sh1, AV.sh0, AO.sh, List.map_cons, List.map_nil, Nat.zero_add, Nat.add_zero, setAll])
  | ((apply AOps.splitP; exact rfl; exact rfl) <;> intro h)
  | ((apply AOps.splitN; exact rfl; exact rfl) <;> intro h)
  | (apply w_move; exact rfl; exact rfl)
  | (apply w_assign; exact rfl; exact rfl)
  | apply AWp.seq
  | apply AWp.region
  | ((apply AWp.condP; exact rfl) <;> intro h)
  | ((apply AWp.condN; exact rfl) <;> intro h)
  | (apply AWp.condT; exact rfl)
  | (apply AWp.condF; exact rfl)
  | ((apply AWp.condB; exact rfl) <;> intro h)
  | apply AWp.block
  | apply AWp.ret
  | apply AWp.exit
  | apply AWp.skip
  | (apply AWp.regionQ; kernel_rfl; kernel_rfl)
  | (apply if_pos'; exact rfl)
  | (apply if_neg'; decide)
  | (apply w_skip; exact rfl)
  | (apply w_pickT; exact rfl; exact rfl; exact rfl)
  | (apply w_pickF; exact rfl; exact rfl; exact rfl)
  | (apply w_lenb; iterate 3 exact rfl)
  | (apply w_len; exact rfl; exact rfl; first | exact .ints _ | exact .intss _ | exact .sli rfl | exact .sls rfl | exact .slr rfl | exact .orow rfl | exact .nil)
  | (apply w_mkb; exact rfl; exact rfl; rotate_left 3; exact rfl; rotate_left 1)
  | (apply w_idxb; iterate 4 exact rfl)
  | (apply w_ldbl; iterate 4 exact rfl)
  | (apply w_stb; exact rfl; exact rfl; rotate_left 1; exact rfl; rotate_left 1)
  | (apply w_ldbi; iterate 5 exact rfl)
  | (apply w_ldbn; iterate 5 exact rfl)
  | apply AllOfG.nil
  | (apply AllOfG.consQ; exact rfl; exact rfl)
  | (apply AllOfG.consS; exact rfl; exact rfl)
  | (apply AAnyG.takeW; exact rfl; exact rfl; kernel_rfl; kernel_rfl)
  | (apply AAnyG.takeL; exact rfl; exact rfl; kernel_rfl)
  | (apply AAnyG.all; exact rfl)
  | (apply AAnyG.done; exact rfl)
  | ((first | apply w_nilck | apply w_convu | apply w_convi | apply w_not | apply w_neg | apply w_conv | apply w_build0 | apply w_bs1 | apply w_boxa); iterate 2 exact rfl)
  | ((first | apply w_shr1 | apply w_lss | apply w_leq | apply w_gtr | apply w_geq | apply w_eql | apply w_neq | apply w_add | apply w_sub | apply w_mul | apply w_idx | apply w_ld | apply w_fld | apply w_fa | apply w_extv | apply w_min | apply w_max | apply w_slhi | apply w_sllo | apply w_bs2); iterate 3 exact rfl)
  | omega
  | ((first | apply w_eqlb | apply w_neqb | apply w_idxs | apply w_lds | apply w_ext); iterate 3 exact rfl)
  | (apply w_rem; exact rfl; exact rfl; exact rfl; (focus (omega; done)); (focus (omega; done)))
  | (apply w_quo; exact rfl; exact rfl; exact rfl; (focus (omega; done)); (focus (omega; done)))
  | (apply w_remT; exact rfl; exact rfl; exact rfl)
  | (apply w_quoT; exact rfl; exact rfl; exact rfl)
  | (apply w_idxo; exact rfl; exact rfl; (first | exact .sli rfl | exact .sls rfl | exact .slr rfl); exact rfl)
  | ((first | apply w_idxr | apply w_ldr); iterate 4 exact rfl)
  | (apply w_ldo; iterate 4 exact rfl)
  | (apply w_ldls; iterate 4 exact rfl)
  | (apply w_ldrp; iterate 4 exact rfl)
  | (apply w_ldb; iterate 5 exact rfl)
  | (apply w_ldst; iterate 5 exact rfl)
  | ((first | apply w_sllh | apply w_stbi); iterate 4 exact rfl)
  | ((first | apply w_oslo | apply w_oshi | apply w_stbii); iterate 4 exact rfl)
  | (apply w_build1; exact rfl; exact rfl; (first | exact one_val rfl rfl | exact one_ints | exact one_intss | exact one_own rfl True.intro))
  | (apply w_build2; exact rfl; exact rfl; exact rfl; (first | exact one_val rfl rfl | exact one_ints | exact one_intss | exact one_own rfl True.intro); (first | exact one_val rfl rfl | exact one_ints | exact one_intss | exact one_own rfl True.intro))
  | (apply w_bs0; iterate 1 exact rfl)
  | (apply w_appn; exact rfl; exact rfl; (first | exact .ints _ | exact .sli rfl | exact .orow rfl | exact .nil | exact .osub rfl (by simp; omega)); exact rfl)
  | (apply w_alst; iterate 2 exact rfl)
  | (apply w_alone; iterate 3 exact rfl)
  | (apply w_mkr; exact rfl; exact rfl; rotate_left 3; exact rfl; rotate_left 1)
  | (apply w_sti; exact rfl; exact rfl; rotate_left 1; exact rfl; rotate_left 2)
  | (apply w_stst; iterate 5 exact rfl)
  | (apply w_stbv; iterate 6 exact rfl)
  | (apply w_stbo; exact rfl; exact rfl; exact rfl; exact rfl; exact rfl; exact True.intro)
  | ((apply AOps.splitB; exact rfl; exact rfl) <;> intro h)
  | apply AllOf.nil
  | (apply AllOf.cons; exact rfl)
  | (apply AAny.take; exact rfl; exact rfl; kernel_rfl; kernel_rfl)
  | (apply AAny.all; exact rfl)
  | (apply AAny.done; exact rfl)
  | (apply inI_of <;> omega)
  | omega
  | (simp <;> omega))
        all_goals (first | (apply Or.inl; refine ⟨lee rfl ?_, ?_, rfl, (by first | exact rfl | (simp [AO.lim, AV.lim, bL_lim]; done))⟩; (focus ((repeat (first | exact le_nil | refine le_eq rfl rfl ?_ | (refine le_eq rfl (congrArg AV.i ?_) ?_; (focus (omega; done))))); done)); (focus ((repeat (first | exact lo_nil | refine lo_dead ?_ | refine lo_eq rfl ?_ | refine lo_eq (congrArg (AO.slr _) (bL_ren _ _)) ?_)); done))))
      repeat' (first
  | (apply AOps.nil; try simp only [List.nil_append, List.cons_append, List.set_cons_zero, List.set_cons_succ, List.length_cons, List.length_nil, Nat.reduceAdd, AV.sh, AV.sh1, AV.sh0, AO.sh, List.map_cons, List.map_nil, Nat.zero_add, Nat.add_zero, setAll])
  | ((apply AOps.splitP; exact rfl; exact rfl) <;> intro h)
  | ((apply AOps.splitN; exact rfl; exact rfl) <;> intro h)
  | (apply w_move; exact rfl; exact rfl)
  | (apply w_assign; exact rfl; exact rfl)
  | apply AWp.seq
  | apply AWp.region
  | ((apply AWp.condP; exact rfl) <;> intro h)
  | ((apply AWp.condN; exact rfl) <;> intro h)
  | (apply AWp.condT; exact rfl)
  | (apply AWp.condF; exact rfl)
  | ((apply AWp.condB; exact rfl) <;> intro h)
  | apply AWp.block
  | apply AWp.ret
  | apply AWp.exit
  | apply AWp.skip
  | (apply if_pos'; exact rfl)
  | (apply if_neg'; decide)
  | (apply w_skip; exact rfl)
  | (apply w_pickT; exact rfl; exact rfl; exact rfl)
  | (apply w_pickF; exact rfl; exact rfl; exact rfl)
  | (apply w_len; exact rfl; exact rfl; first | exact .ints _ | exact .intss _ | exact .sli rfl | exact .sls rfl | exact .slr rfl | exact .orow rfl | exact .nil)
  | omega
  | ((first | apply w_lss | apply w_leq | apply w_gtr | apply w_geq | apply w_eql | apply w_neq | apply w_add | apply w_sub | apply w_mul | apply w_idx | apply w_ld | apply w_fld | apply w_fa | apply w_extv | apply w_min | apply w_max | apply w_slhi | apply w_sllo | apply w_bs2); iterate 3 exact rfl)
  | ((first | apply w_eqlb | apply w_neqb | apply w_idxs | apply w_lds | apply w_ext); iterate 3 exact rfl)
  | (apply w_rem; exact rfl; exact rfl; exact rfl; (focus (omega; done)); (focus (omega; done)))
  | (apply w_quo; exact rfl; exact rfl; exact rfl; (focus (omega; done)); (focus (omega; done)))
  | (apply w_remT; exact rfl; exact rfl; exact rfl)
  | (apply w_quoT; exact rfl; exact rfl; exact rfl)
  | ((first | apply w_not | apply w_neg | apply w_conv | apply w_build0 | apply w_bs1 | apply w_boxa); iterate 2 exact rfl)
  | (apply w_idxo; exact rfl; exact rfl; (first | exact .sli rfl | exact .sls rfl | exact .slr rfl); exact rfl)
  | ((first | apply w_idxr | apply w_ldr); iterate 4 exact rfl)
  | (apply w_ldo; iterate 4 exact rfl)
  | (apply w_ldls; iterate 4 exact rfl)
  | (apply w_ldrp; iterate 4 exact rfl)
  | (apply w_ldb; iterate 5 exact rfl)
  | (apply w_ldst; iterate 5 exact rfl)
  | ((first | apply w_sllh | apply w_stbi); iterate 4 exact rfl)
  | ((first | apply w_oslo | apply w_oshi | apply w_stbii); iterate 4 exact rfl)
  | (apply w_build1; exact rfl; exact rfl; (first | exact one_val rfl rfl | exact one_ints | exact one_intss | exact one_own rfl True.intro))
  | (apply w_build2; exact rfl; exact rfl; exact rfl; (first | exact one_val rfl rfl | exact one_ints | exact one_intss | exact one_own rfl True.intro); (first | exact one_val rfl rfl | exact one_ints | exact one_intss | exact one_own rfl True.intro))
  | (apply w_bs0; iterate 1 exact rfl)
  | (apply w_appn; exact rfl; exact rfl; (first | exact .ints _ | exact .sli rfl | exact .orow rfl | exact .nil | exact .osub rfl (by simp; omega)); exact rfl)
  | (apply w_alst; iterate 2 exact rfl)
  | (apply w_alone; iterate 3 exact rfl)
  | (apply w_mkr; exact rfl; exact rfl; rotate_left 3; exact rfl; rotate_left 1)
  | (apply w_sti; exact rfl; exact rfl; rotate_left 1; exact rfl; rotate_left 2)
  | (apply w_stst; iterate 5 exact rfl)
  | (apply w_stbv; iterate 6 exact rfl)
  | (apply w_stbo; exact rfl; exact rfl; exact rfl; exact rfl; exact rfl; exact True.intro)
  | ((apply AOps.splitB; exact rfl; exact rfl) <;> intro h)
  | apply AllOf.nil
  | (apply AllOf.cons; exact rfl)
  | (apply AAny.take; exact rfl; exact rfl; kernel_rfl; kernel_rfl)
  | (apply AAny.all; exact rfl)
  | (apply AAny.done; exact rfl)
  | (apply inI_of <;> omega)
  | omega
  | (simp <;> omega))
      exact ⟨.unit Try.results65, [], rfl⟩
end Go.Proofs.Ytbalbiliejjnoaa
