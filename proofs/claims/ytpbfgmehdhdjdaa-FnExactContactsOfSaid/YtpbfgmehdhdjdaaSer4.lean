
/-
  Parametrisations: conjugates. No condition.
-/
import Derived.Test.YtpbfgmehdhdjdaaSer3
import Derived.Test.YtpbfgmehdhdjdaaPow
import Derived.Test.YtpbfgmehdhdjdaaMarks
namespace Go.Proofs.Ytpbfgmehdhdjdaa
open Go Go.RowKit
attribute [local irreducible] AWp AOps ResIs Ret1 QOp LOp COp AFnV AFn Imms LeE LeO
set_option maxHeartbeats 1000000
set_option linter.unusedSimpArgs false
set_option linter.unusedVariables false

theorem isSerB_get {n : Int} {cs : List Int} (h : isSerB n cs = true) (i : Int) : 0 ≤ geti cs i ∧ geti cs i ≤ 55440 := by
  simp only [isSerB, Bool.and_eq_true] at h
  by_cases hi : i.toNat < cs.length
  · have := withinL_get h.2 i.toNat hi
    unfold geti at this ⊢
    rwa [Int.toNat_natCast] at this
  · have : geti cs i = 0 := by simp [geti, List.getElem?_eq_none (show cs.length ≤ i.toNat by omega)]
    omega

/-- The first k coefficients of a conjugate. -/
def conjK (cs : List Int) (z : Int) (k : Nat) : List Int := (List.range k).map fun i => geti cs (i : Nat) * pwF z (i : Nat) % 55441
theorem conjK_len (cs : List Int) (z : Int) (k : Nat) : (conjK cs z k).length = k := by simp [conjK]
theorem conjK_succ (cs : List Int) (z : Int) (k : Nat) : conjK cs z (k + 1) = conjK cs z k ++ [geti cs k * pwF z k % 55441] := by simp [conjK, List.range_succ]

theorem l16Conjugate_c (n : Int) (cs : List Int) (hs : isSerB n cs = true) (z : Int) (hz : 0 ≤ z ∧ z ≤ 55440) : AFn Try.prog 67 [.ints cs, .i z] (IsInts 2 (conjK cs z cs.length)) := by
  obtain ⟨s1, s2, s3, s4, s5⟩ := isSerB_n hs
  refine AFn.start Try.func67 Try.ntmps67 rfl (by kernel_rfl) fun hk => ?_
  simp only [Env.start, enumF, List.length_cons, List.length_nil, Nat.reduceAdd, Nat.reduceSub, List.cons_append, List.nil_append]
  repeat' (first
    | (apply AOps.nil; try simp only [List.nil_append, List.cons_append, List.set_cons_zero, List.set_cons_succ, List.length_cons, List.length_nil, Nat.reduceAdd, AV.sh, AV.sh1, AV.sh0, AO.sh, List.map_cons, List.map_nil, Nat.zero_add, Nat.add_zero, setAll])
    | ((apply AOps.splitP; exact rfl; exact rfl) <;> intro h)
    | ((apply AOps.splitN; exact rfl; exact rfl) <;> intro h)
    | (apply w_move; exact rfl; exact rfl)
    | (apply w_assign; exact rfl; exact rfl)
    | apply AWp.seq
    | apply AWp.region
    | ((apply AWp.condP; exact rfl) <;> intro h)
    | ((apply AWp.condN; exact rfl) <;> intro h)
    | (apply AWp.condT; exact rfl)
    | (apply AWp.condF; exact rfl)
    | ((apply AWp.condB; exact rfl) <;> intro h)
    | apply AWp.block
    | apply AWp.ret
    | apply AWp.exit
    | apply AWp.skip
    | (apply AWp.regionQ; kernel_rfl; kernel_rfl)
    | (apply if_pos'; exact rfl)
    | (apply if_neg'; decide)
    | (apply w_skip; exact rfl)
    | (apply w_pickT; exact rfl; exact rfl; exact rfl)
    | (apply w_pickF; exact rfl; exact rfl; exact rfl)
    | (apply w_len; exact rfl; exact rfl; first | exact .ints _ | exact .intss _ | exact .sli rfl | exact .sls rfl | exact .slr rfl | exact .orow rfl | exact .nil)
    | (apply w_lss; exact rfl; exact rfl; exact rfl)
    | (apply w_leq; exact rfl; exact rfl; exact rfl)
    | (apply w_gtr; exact rfl; exact rfl; exact rfl)
    | (apply w_geq; exact rfl; exact rfl; exact rfl)
    | (apply w_eql; exact rfl; exact rfl; exact rfl)
    | (apply w_neq; exact rfl; exact rfl; exact rfl)
    | (apply w_eqlb; exact rfl; exact rfl; exact rfl)
    | (apply w_neqb; exact rfl; exact rfl; exact rfl)
    | (apply w_add; exact rfl; exact rfl; exact rfl)
    | (apply w_sub; exact rfl; exact rfl; exact rfl)
    | (apply w_mul; exact rfl; exact rfl; exact rfl)
    | (apply w_rem; exact rfl; exact rfl; exact rfl; (focus (omega; done)); (focus (omega; done)))
    | (apply w_quo; exact rfl; exact rfl; exact rfl; (focus (omega; done)); (focus (omega; done)))
    | (apply w_remT; exact rfl; exact rfl; exact rfl)
    | (apply w_quoT; exact rfl; exact rfl; exact rfl)
    | (apply w_not; exact rfl; exact rfl)
    | (apply w_neg; exact rfl; exact rfl)
    | (apply w_conv; exact rfl; exact rfl)
    | (apply w_idx; exact rfl; exact rfl; exact rfl)
    | (apply w_idxs; exact rfl; exact rfl; exact rfl)
    | (apply w_ld; exact rfl; exact rfl; exact rfl)
    | (apply w_lds; exact rfl; exact rfl; exact rfl)
    | (apply w_idxo; exact rfl; exact rfl; (first | exact .sli rfl | exact .sls rfl | exact .slr rfl); exact rfl)
    | (apply w_idxr; exact rfl; exact rfl; exact rfl; exact rfl)
    | (apply w_ldo; exact rfl; exact rfl; exact rfl; exact rfl)
    | (apply w_ldr; exact rfl; exact rfl; exact rfl; exact rfl)
    | (apply w_ldls; exact rfl; exact rfl; exact rfl; exact rfl)
    | (apply w_ldrp; exact rfl; exact rfl; exact rfl; exact rfl)
    | (apply w_fld; exact rfl; exact rfl; exact rfl)
    | (apply w_fa; exact rfl; exact rfl; exact rfl)
    | (apply w_ldb; exact rfl; exact rfl; exact rfl; exact rfl; exact rfl)
    | (apply w_ldst; exact rfl; exact rfl; exact rfl; exact rfl; exact rfl)
    | (apply w_extv; exact rfl; exact rfl; exact rfl)
    | (apply w_ext; exact rfl; exact rfl; exact rfl)
    | (apply w_min; exact rfl; exact rfl; exact rfl)
    | (apply w_max; exact rfl; exact rfl; exact rfl)
    | (apply w_slhi; exact rfl; exact rfl; exact rfl)
    | (apply w_sllo; exact rfl; exact rfl; exact rfl)
    | (apply w_sllh; exact rfl; exact rfl; exact rfl; exact rfl)
    | (apply w_oslo; exact rfl; exact rfl; exact rfl; exact rfl)
    | (apply w_oshi; exact rfl; exact rfl; exact rfl; exact rfl)
    | (apply w_copy; exact rfl; (first | exact .own rfl rfl rfl | exact .osub); exact rfl; rotate_left 1; exact rfl; (first | exact .ints _ | exact .sli rfl | exact .orow rfl | exact .nil | exact .osub rfl (by simp; omega)))
    | (apply w_build0; exact rfl; exact rfl)
    | (apply w_build1; exact rfl; exact rfl; (first | exact one_val rfl rfl | exact one_ints | exact one_intss | exact one_own rfl True.intro))
    | (apply w_build2; exact rfl; exact rfl; exact rfl; (first | exact one_val rfl rfl | exact one_ints | exact one_intss | exact one_own rfl True.intro); (first | exact one_val rfl rfl | exact one_ints | exact one_intss | exact one_own rfl True.intro))
    | (apply w_bs0; exact rfl)
    | (apply w_bs1; exact rfl; exact rfl)
    | (apply w_bs2; exact rfl; exact rfl; exact rfl)
    | (apply w_appn; exact rfl; exact rfl; (first | exact .ints _ | exact .sli rfl | exact .orow rfl | exact .nil | exact .osub rfl (by simp; omega)); exact rfl)
    | (apply w_app; exact rfl; exact rfl; exact rfl; exact rfl; (first | exact .ints _ | exact .sli rfl | exact .orow rfl | exact .nil | exact .osub rfl (by simp; omega)); rotate_left 1; simp only [Env.mp, List.map_cons, List.map_nil, List.set_cons_zero, List.set_cons_succ, AV.kill, AV.kill1, AO.kill, AV.noRow, AV.noRow1, AO.via, reduceIte, Nat.reduceEqDiff, Nat.reduceLT, Env.up, Nat.zero_ne_one, Nat.one_ne_zero, Nat.reduceAdd, List.cons_append, List.nil_append]; rotate_left 1)
    | (apply w_boxa; exact rfl; exact rfl)
    | (apply w_alst; exact rfl; exact rfl)
    | (apply w_alone; exact rfl; exact rfl; exact rfl)
    | (apply w_mki; exact rfl; exact rfl; rotate_left 3; exact rfl; rotate_left 1)
    | (apply w_mkr; exact rfl; exact rfl; rotate_left 3; exact rfl; rotate_left 1)
    | (apply w_strow; exact rfl; exact rfl; rotate_left 1; exact rfl; exact rfl; exact rfl; exact rfl; simp only [Env.mp, List.map_cons, List.map_nil, List.set_cons_zero, List.set_cons_succ, AV.kill, AV.kill1, AO.kill, AV.noRow, AV.noRow1, AO.via, reduceIte, Nat.reduceEqDiff, Nat.reduceLT, Env.up, Nat.zero_ne_one, Nat.one_ne_zero, Nat.reduceAdd, List.cons_append, List.nil_append]; rotate_left 1)
    | (apply w_sti; exact rfl; exact rfl; rotate_left 1; exact rfl; rotate_left 2)
    | (apply w_stst; exact rfl; exact rfl; exact rfl; exact rfl; exact rfl)
    | (apply w_stbv; exact rfl; exact rfl; exact rfl; exact rfl; exact rfl; exact rfl)
    | (apply w_stbi; exact rfl; exact rfl; exact rfl; exact rfl)
    | (apply w_stbii; exact rfl; exact rfl; exact rfl; exact rfl)
    | (apply w_stbo; exact rfl; exact rfl; exact rfl; exact rfl; exact rfl; exact True.intro)
    | ((apply AOps.splitB; exact rfl; exact rfl) <;> intro h)
    | apply AllOf.nil
    | (apply AllOf.cons; exact rfl)
    | (apply AAny.take; exact rfl; exact rfl; kernel_rfl; kernel_rfl)
    | (apply AAny.all; exact rfl)
    | (apply AAny.done; exact rfl)
    | (apply inI_of <;> omega)
    | omega
    | (simp <;> omega))
  refine AWp.loop (ι := Nat) (fun i => ⟨30, [(0, .ints cs), (1, .i z), (5, .own 0), (6, .i (pwF z i)), (7, .i i)]⟩) (fun i => [.sli 2 (conjK cs z i)]) (fun i => i ≤ cs.length) (fun i => cs.length - i) 0 (by omega) ⟨lee rfl (by (repeat (first | exact le_nil | refine le_eq rfl rfl ?_ | refine le_eq rfl (congrArg AV.i (by omega)) ?_ | refine le_eq rfl (congrArg AV.i (pwF_zero' z)) ?_))), by (repeat (first | exact lo_nil | refine lo_dead ?_ | refine lo_eq rfl ?_ | refine lo_eq (congrArg (AO.sli _) (pwF_zero' z)) ?_ | refine lo_eq (congrArg (AO.sls _ _) (pwF_zero' z)) ?_)), rfl, rfl⟩ ?_
  rintro i h0
  have e1 := conjK_len cs z i
  have b1 := isSerB_get hs i
  have b2 := pwF_in z i
  have b3 := mulB b1.1 b1.2 b2.1 b2.2
  have b4 := modF (geti cs i * pwF z i)
  have b5 := mulB b2.1 b2.2 hz.1 hz.2
  have b6 := modF (pwF z i * z)
  repeat' (first
    | (apply AOps.nil; try simp only [List.nil_append, List.cons_append, List.set_cons_zero, List.set_cons_succ, List.length_cons, List.length_nil, Nat.reduceAdd, AV.sh, AV.sh1, AV.sh0, AO.sh, List.map_cons, List.map_nil, Nat.zero_add, Nat.add_zero, setAll])
    | ((apply AOps.splitP; exact rfl; exact rfl) <;> intro h)
    | ((apply AOps.splitN; exact rfl; exact rfl) <;> intro h)
    | (apply w_move; exact rfl; exact rfl)
    | (apply w_assign; exact rfl; exact rfl)
    | apply AWp.seq
    | apply AWp.region
    | ((apply AWp.condP; exact rfl) <;> intro h)
    | ((apply AWp.condN; exact rfl) <;> intro h)
    | (apply AWp.condT; exact rfl)
    | (apply AWp.condF; exact rfl)
    | ((apply AWp.condB; exact rfl) <;> intro h)
    | apply AWp.block
    | apply AWp.ret
    | apply AWp.exit
    | apply AWp.skip
    | (apply AWp.regionQ; kernel_rfl; kernel_rfl)
    | (apply if_pos'; exact rfl)
    | (apply if_neg'; decide)
    | (apply w_skip; exact rfl)
    | (apply w_pickT; exact rfl; exact rfl; exact rfl)
    | (apply w_pickF; exact rfl; exact rfl; exact rfl)
    | (apply w_len; exact rfl; exact rfl; first | exact .ints _ | exact .intss _ | exact .sli rfl | exact .sls rfl | exact .slr rfl | exact .orow rfl | exact .nil)
    | (apply w_lss; exact rfl; exact rfl; exact rfl)
    | (apply w_leq; exact rfl; exact rfl; exact rfl)
    | (apply w_gtr; exact rfl; exact rfl; exact rfl)
    | (apply w_geq; exact rfl; exact rfl; exact rfl)
    | (apply w_eql; exact rfl; exact rfl; exact rfl)
    | (apply w_neq; exact rfl; exact rfl; exact rfl)
    | (apply w_eqlb; exact rfl; exact rfl; exact rfl)
    | (apply w_neqb; exact rfl; exact rfl; exact rfl)
    | (apply w_add; exact rfl; exact rfl; exact rfl)
    | (apply w_sub; exact rfl; exact rfl; exact rfl)
    | (apply w_mul; exact rfl; exact rfl; exact rfl)
    | (apply w_rem; exact rfl; exact rfl; exact rfl; (focus (omega; done)); (focus (omega; done)))
    | (apply w_quo; exact rfl; exact rfl; exact rfl; (focus (omega; done)); (focus (omega; done)))
    | (apply w_remT; exact rfl; exact rfl; exact rfl)
    | (apply w_quoT; exact rfl; exact rfl; exact rfl)
    | (apply w_not; exact rfl; exact rfl)
    | (apply w_neg; exact rfl; exact rfl)
    | (apply w_conv; exact rfl; exact rfl)
    | (apply w_idx; exact rfl; exact rfl; exact rfl)
    | (apply w_idxs; exact rfl; exact rfl; exact rfl)
    | (apply w_ld; exact rfl; exact rfl; exact rfl)
    | (apply w_lds; exact rfl; exact rfl; exact rfl)
    | (apply w_idxo; exact rfl; exact rfl; (first | exact .sli rfl | exact .sls rfl | exact .slr rfl); exact rfl)
    | (apply w_idxr; exact rfl; exact rfl; exact rfl; exact rfl)
    | (apply w_ldo; exact rfl; exact rfl; exact rfl; exact rfl)
    | (apply w_ldr; exact rfl; exact rfl; exact rfl; exact rfl)
    | (apply w_ldls; exact rfl; exact rfl; exact rfl; exact rfl)
    | (apply w_ldrp; exact rfl; exact rfl; exact rfl; exact rfl)
    | (apply w_fld; exact rfl; exact rfl; exact rfl)
    | (apply w_fa; exact rfl; exact rfl; exact rfl)
    | (apply w_ldb; exact rfl; exact rfl; exact rfl; exact rfl; exact rfl)
    | (apply w_ldst; exact rfl; exact rfl; exact rfl; exact rfl; exact rfl)
    | (apply w_extv; exact rfl; exact rfl; exact rfl)
    | (apply w_ext; exact rfl; exact rfl; exact rfl)
    | (apply w_min; exact rfl; exact rfl; exact rfl)
    | (apply w_max; exact rfl; exact rfl; exact rfl)
    | (apply w_slhi; exact rfl; exact rfl; exact rfl)
    | (apply w_sllo; exact rfl; exact rfl; exact rfl)
    | (apply w_sllh; exact rfl; exact rfl; exact rfl; exact rfl)
    | (apply w_oslo; exact rfl; exact rfl; exact rfl; exact rfl)
    | (apply w_oshi; exact rfl; exact rfl; exact rfl; exact rfl)
    | (apply w_copy; exact rfl; (first | exact .own rfl rfl rfl | exact .osub); exact rfl; rotate_left 1; exact rfl; (first | exact .ints _ | exact .sli rfl | exact .orow rfl | exact .nil | exact .osub rfl (by simp; omega)))
    | (apply w_build0; exact rfl; exact rfl)
    | (apply w_build1; exact rfl; exact rfl; (first | exact one_val rfl rfl | exact one_ints | exact one_intss | exact one_own rfl True.intro))
    | (apply w_build2; exact rfl; exact rfl; exact rfl; (first | exact one_val rfl rfl | exact one_ints | exact one_intss | exact one_own rfl True.intro); (first | exact one_val rfl rfl | exact one_ints | exact one_intss | exact one_own rfl True.intro))
    | (apply w_bs0; exact rfl)
    | (apply w_bs1; exact rfl; exact rfl)
    | (apply w_bs2; exact rfl; exact rfl; exact rfl)
    | (apply w_appn; exact rfl; exact rfl; (first | exact .ints _ | exact .sli rfl | exact .orow rfl | exact .nil | exact .osub rfl (by simp; omega)); exact rfl)
    | (apply w_app; exact rfl; exact rfl; exact rfl; exact rfl; (first | exact .ints _ | exact .sli rfl | exact .orow rfl | exact .nil | exact .osub rfl (by simp; omega)); rotate_left 1; simp only [Env.mp, List.map_cons, List.map_nil, List.set_cons_zero, List.set_cons_succ, AV.kill, AV.kill1, AO.kill, AV.noRow, AV.noRow1, AO.via, reduceIte, Nat.reduceEqDiff, Nat.reduceLT, Env.up, Nat.zero_ne_one, Nat.one_ne_zero, Nat.reduceAdd, List.cons_append, List.nil_append]; rotate_left 1)
    | (apply w_boxa; exact rfl; exact rfl)
    | (apply w_alst; exact rfl; exact rfl)
    | (apply w_alone; exact rfl; exact rfl; exact rfl)
    | (apply w_mki; exact rfl; exact rfl; rotate_left 3; exact rfl; rotate_left 1)
    | (apply w_mkr; exact rfl; exact rfl; rotate_left 3; exact rfl; rotate_left 1)
    | (apply w_strow; exact rfl; exact rfl; rotate_left 1; exact rfl; exact rfl; exact rfl; exact rfl; simp only [Env.mp, List.map_cons, List.map_nil, List.set_cons_zero, List.set_cons_succ, AV.kill, AV.kill1, AO.kill, AV.noRow, AV.noRow1, AO.via, reduceIte, Nat.reduceEqDiff, Nat.reduceLT, Env.up, Nat.zero_ne_one, Nat.one_ne_zero, Nat.reduceAdd, List.cons_append, List.nil_append]; rotate_left 1)
    | (apply w_sti; exact rfl; exact rfl; rotate_left 1; exact rfl; rotate_left 2)
    | (apply w_stst; exact rfl; exact rfl; exact rfl; exact rfl; exact rfl)
    | (apply w_stbv; exact rfl; exact rfl; exact rfl; exact rfl; exact rfl; exact rfl)
    | (apply w_stbi; exact rfl; exact rfl; exact rfl; exact rfl)
    | (apply w_stbii; exact rfl; exact rfl; exact rfl; exact rfl)
    | (apply w_stbo; exact rfl; exact rfl; exact rfl; exact rfl; exact rfl; exact True.intro)
    | ((apply AOps.splitB; exact rfl; exact rfl) <;> intro h)
    | apply AllOf.nil
    | (apply AllOf.cons; exact rfl)
    | (apply AAny.take; exact rfl; exact rfl; kernel_rfl; kernel_rfl)
    | (apply AAny.all; exact rfl)
    | (apply AAny.done; exact rfl)
    | (apply inI_of <;> omega)
    | omega
    | (simp <;> omega))
  · have e2 := pwF_succ z i
    have e3 := (conjK_succ cs z i).symm
    exact ⟨i + 1, by omega, by omega, ⟨lee rfl (by (repeat (first | exact le_nil | refine le_eq rfl rfl ?_ | refine le_eq rfl (congrArg AV.i (by omega)) ?_ | refine le_eq rfl (congrArg AV.i (e2)) ?_ | refine le_eq rfl (congrArg AV.i (e3)) ?_))), by (repeat (first | exact lo_nil | refine lo_dead ?_ | refine lo_eq rfl ?_ | refine lo_eq (congrArg (AO.sli _) (e2)) ?_ | refine lo_eq (congrArg (AO.sls _ _) (e2)) ?_ | refine lo_eq (congrArg (AO.sli _) (e3)) ?_ | refine lo_eq (congrArg (AO.sls _ _) (e3)) ?_)), rfl, rfl⟩⟩
  · have e : i = cs.length := by omega
    subst e
    exact ⟨_, _, _, .v1 Try.results67 rfl, .sli rfl, rfl, rfl⟩

end Go.Proofs.Ytpbfgmehdhdjdaa
