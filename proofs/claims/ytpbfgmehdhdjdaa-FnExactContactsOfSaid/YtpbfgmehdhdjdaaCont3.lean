
/-
  Contacts of parametrisations: the reference's. No condition.
-/
import Derived.Test.YtpbfgmehdhdjdaaCont2
namespace Go.Proofs.Ytpbfgmehdhdjdaa
open Go Go.RowKit
attribute [local irreducible] AWp AOps ResIs Ret1 QOp LOp COp AFnV AFn Imms LeE LeO
set_option maxHeartbeats 1000000
set_option linter.unusedSimpArgs false
set_option linter.unusedVariables false

theorem mulLe {i l k : Int} (hi : i ≤ l) (hk : 0 ≤ k) : i * k ≤ l * k := Int.mul_le_mul_of_nonneg_right hi hk

theorem l16Spread_c (cs : List Int) (hF : inF cs) (k : Int) (hkk : 0 ≤ k ∧ k ≤ 12) (hl : 1 ≤ cs.length ∧ cs.length ≤ 81) : AFn Try.prog 100 [.ints cs, .i k] (IsInts 2 (spL cs k.toNat (((cs.length : Int) - 1) * k + 1).toNat cs.length)) := by
  have b0 := mulK (i := (cs.length : Int) - 1) (k := k) (c := 12) (by omega) hkk.1 hkk.2 (by omega)
  refine AFn.start Try.func100 Try.ntmps100 rfl (by kernel_rfl) fun hk => ?_
  simp only [Env.start, enumF, List.length_cons, List.length_nil, Nat.reduceAdd, Nat.reduceSub, List.cons_append, List.nil_append]
  repeat' (first
  | (apply AOps.nil; try simp only [List.nil_append, List.cons_append, List.set_cons_zero, List.set_cons_succ, List.length_cons, List.length_nil, Nat.reduceAdd, AV.sh, AV.sh1, AV.sh0, AO.sh, List.map_cons, List.map_nil, Nat.zero_add, Nat.add_zero, setAll])
  | ((apply AOps.splitP; exact rfl; exact rfl) <;> intro h)
  | ((apply AOps.splitN; exact rfl; exact rfl) <;> intro h)
  | (apply w_move; exact rfl; exact rfl)
  | (apply w_assign; exact rfl; exact rfl)
  | apply AWp.seq
  | apply AWp.region
  | ((apply AWp.condP; exact rfl) <;> intro h)
  | ((apply AWp.condN; exact rfl) <;> intro h)
  | (apply AWp.condT; exact rfl)
  | (apply AWp.condF; exact rfl)
  | ((apply AWp.condB; exact rfl) <;> intro h)
  | apply AWp.block
  | apply AWp.ret
  | apply AWp.exit
  | apply AWp.skip
  | (apply if_pos'; exact rfl)
  | (apply if_neg'; decide)
  | (apply w_skip; exact rfl)
  | (apply w_pickT; exact rfl; exact rfl; exact rfl)
  | (apply w_pickF; exact rfl; exact rfl; exact rfl)
  | (apply w_len; exact rfl; exact rfl; first | exact .ints _ | exact .intss _ | exact .sli rfl | exact .sls rfl | exact .slr rfl | exact .orow rfl | exact .nil)
  | omega
  | ((first | apply w_lss | apply w_leq | apply w_gtr | apply w_geq | apply w_eql | apply w_neq | apply w_add | apply w_sub | apply w_mul | apply w_idx | apply w_ld | apply w_fld | apply w_fa | apply w_extv | apply w_min | apply w_max | apply w_slhi | apply w_sllo | apply w_bs2); iterate 3 exact rfl)
  | ((first | apply w_eqlb | apply w_neqb | apply w_idxs | apply w_lds | apply w_ext); iterate 3 exact rfl)
  | (apply w_rem; exact rfl; exact rfl; exact rfl; (focus (omega; done)); (focus (omega; done)))
  | (apply w_quo; exact rfl; exact rfl; exact rfl; (focus (omega; done)); (focus (omega; done)))
  | (apply w_remT; exact rfl; exact rfl; exact rfl)
  | (apply w_quoT; exact rfl; exact rfl; exact rfl)
  | ((first | apply w_not | apply w_neg | apply w_conv | apply w_build0 | apply w_bs1 | apply w_boxa); iterate 2 exact rfl)
  | (apply w_idxo; exact rfl; exact rfl; (first | exact .sli rfl | exact .sls rfl | exact .slr rfl); exact rfl)
  | ((first | apply w_idxr | apply w_ldr); iterate 4 exact rfl)
  | (apply w_ldo; iterate 4 exact rfl)
  | (apply w_ldls; iterate 4 exact rfl)
  | (apply w_ldrp; iterate 4 exact rfl)
  | (apply w_ldb; iterate 5 exact rfl)
  | (apply w_ldst; iterate 5 exact rfl)
  | ((first | apply w_sllh | apply w_stbi); iterate 4 exact rfl)
  | ((first | apply w_oslo | apply w_oshi | apply w_stbii); iterate 4 exact rfl)
  | (apply w_build1; exact rfl; exact rfl; (first | exact one_val rfl rfl | exact one_ints | exact one_intss | exact one_own rfl True.intro))
  | (apply w_build2; exact rfl; exact rfl; exact rfl; (first | exact one_val rfl rfl | exact one_ints | exact one_intss | exact one_own rfl True.intro); (first | exact one_val rfl rfl | exact one_ints | exact one_intss | exact one_own rfl True.intro))
  | (apply w_bs0; iterate 1 exact rfl)
  | (apply w_appn; exact rfl; exact rfl; (first | exact .ints _ | exact .sli rfl | exact .orow rfl | exact .nil | exact .osub rfl (by simp; omega)); exact rfl)
  | (apply w_app; exact rfl; exact rfl; exact rfl; exact rfl; (first | exact .ints _ | exact .sli rfl | exact .orow rfl | exact .nil | exact .osub rfl (by simp; omega)); rotate_left 1; simp only [Env.mp, List.map_cons, List.map_nil, List.set_cons_zero, List.set_cons_succ, AV.kill, AV.kill1, AO.kill, AV.noRow, AV.noRow1, AO.via, reduceIte, Nat.reduceEqDiff, Nat.reduceLT, Env.up, Nat.zero_ne_one, Nat.one_ne_zero, Nat.reduceAdd, List.cons_append, List.nil_append]; rotate_left 1)
  | (apply w_alst; iterate 2 exact rfl)
  | (apply w_alone; iterate 3 exact rfl)
  | (apply w_mki; exact rfl; exact rfl; rotate_left 3; exact rfl; rotate_left 1)
  | (apply w_sti; exact rfl; exact rfl; rotate_left 1; exact rfl; rotate_left 2)
  | (apply w_stst; iterate 5 exact rfl)
  | (apply w_stbv; iterate 6 exact rfl)
  | (apply w_stbo; exact rfl; exact rfl; exact rfl; exact rfl; exact rfl; exact True.intro)
  | ((apply AOps.splitB; exact rfl; exact rfl) <;> intro h)
  | apply AllOf.nil
  | (apply AllOf.cons; exact rfl)
  | (apply AAny.take; exact rfl; exact rfl; kernel_rfl; kernel_rfl)
  | (apply AAny.all; exact rfl)
  | (apply AAny.done; exact rfl)
  | (apply inI_of <;> omega)
  | omega
  | (simp <;> omega))
  refine AWp.loop (ι := Nat) (fun i => ⟨30, [(0, .ints cs), (1, .i k), (5, .own 0), (6, .i i)]⟩) (fun i => [.sli 2 (spL cs k.toNat (((cs.length : Int) - 1) * k + 1).toNat i)]) (fun i => i ≤ cs.length) (fun i => cs.length - i) 0 (by omega) ⟨lee rfl (by (repeat (first | exact le_nil | refine le_eq rfl rfl ?_ | refine le_eq rfl (congrArg AV.i (by omega)) ?_ | refine le_eq rfl (congrArg AV.i (spL_zero cs k.toNat (((cs.length : Int) - 1) * k + 1).toNat)) ?_))), by (repeat (first | exact lo_nil | refine lo_dead ?_ | refine lo_eq rfl ?_ | refine lo_eq (congrArg (AO.sli _) (spL_zero cs k.toNat (((cs.length : Int) - 1) * k + 1).toNat)) ?_ | refine lo_eq (congrArg (AO.sls _ _) (spL_zero cs k.toNat (((cs.length : Int) - 1) * k + 1).toNat)) ?_)), rfl, rfl⟩ ?_
  rintro i i0
  have l1 := spL_len cs k.toNat (((cs.length : Int) - 1) * k + 1).toNat i
  by_cases hi : i < cs.length
  · have b1 := mulK (i := (i : Int)) (k := k) (c := 12) (by omega) hkk.1 hkk.2 (by omega)
    have b3 := mulLe (i := (i : Int)) (l := (cs.length : Int) - 1) (k := k) (by omega) hkk.1
    have b2 := hF i
    have et : ((i : Int) * k).toNat = i * k.toNat := by
      obtain ⟨k', rfl⟩ := Int.eq_ofNat_of_zero_le hkk.1
      rw [Int.toNat_natCast]
      exact Int.toNat_natCast (i * k')
    have e6 : (spL cs k.toNat (((cs.length : Int) - 1) * k + 1).toNat i).set ((i : Int) * k).toNat (geti cs i) = spL cs k.toNat (((cs.length : Int) - 1) * k + 1).toNat (i + 1) := by
      rw [et]; exact spL_set cs k.toNat _ i (by omega)
    repeat' (first
  | (apply AOps.nil; try simp only [List.nil_append, List.cons_append, List.set_cons_zero, List.set_cons_succ, List.length_cons, List.length_nil, Nat.reduceAdd, AV.sh, AV.sh1, AV.sh0, AO.sh, List.map_cons, List.map_nil, Nat.zero_add, Nat.add_zero, setAll])
  | ((apply AOps.splitP; exact rfl; exact rfl) <;> intro h)
  | ((apply AOps.splitN; exact rfl; exact rfl) <;> intro h)
  | (apply w_move; exact rfl; exact rfl)
  | (apply w_assign; exact rfl; exact rfl)
  | apply AWp.seq
  | apply AWp.region
  | ((apply AWp.condP; exact rfl) <;> intro h)
  | ((apply AWp.condN; exact rfl) <;> intro h)
  | (apply AWp.condT; exact rfl)
  | (apply AWp.condF; exact rfl)
  | ((apply AWp.condB; exact rfl) <;> intro h)
  | apply AWp.block
  | apply AWp.ret
  | apply AWp.exit
  | apply AWp.skip
  | (apply if_pos'; exact rfl)
  | (apply if_neg'; decide)
  | (apply w_skip; exact rfl)
  | (apply w_pickT; exact rfl; exact rfl; exact rfl)
  | (apply w_pickF; exact rfl; exact rfl; exact rfl)
  | (apply w_len; exact rfl; exact rfl; first | exact .ints _ | exact .intss _ | exact .sli rfl | exact .sls rfl | exact .slr rfl | exact .orow rfl | exact .nil)
  | omega
  | ((first | apply w_lss | apply w_leq | apply w_gtr | apply w_geq | apply w_eql | apply w_neq | apply w_add | apply w_sub | apply w_mul | apply w_idx | apply w_ld | apply w_fld | apply w_fa | apply w_extv | apply w_min | apply w_max | apply w_slhi | apply w_sllo | apply w_bs2); iterate 3 exact rfl)
  | ((first | apply w_eqlb | apply w_neqb | apply w_idxs | apply w_lds | apply w_ext); iterate 3 exact rfl)
  | (apply w_rem; exact rfl; exact rfl; exact rfl; (focus (omega; done)); (focus (omega; done)))
  | (apply w_quo; exact rfl; exact rfl; exact rfl; (focus (omega; done)); (focus (omega; done)))
  | (apply w_remT; exact rfl; exact rfl; exact rfl)
  | (apply w_quoT; exact rfl; exact rfl; exact rfl)
  | ((first | apply w_not | apply w_neg | apply w_conv | apply w_build0 | apply w_bs1 | apply w_boxa); iterate 2 exact rfl)
  | (apply w_idxo; exact rfl; exact rfl; (first | exact .sli rfl | exact .sls rfl | exact .slr rfl); exact rfl)
  | ((first | apply w_idxr | apply w_ldr); iterate 4 exact rfl)
  | (apply w_ldo; iterate 4 exact rfl)
  | (apply w_ldls; iterate 4 exact rfl)
  | (apply w_ldrp; iterate 4 exact rfl)
  | (apply w_ldb; iterate 5 exact rfl)
  | (apply w_ldst; iterate 5 exact rfl)
  | ((first | apply w_sllh | apply w_stbi); iterate 4 exact rfl)
  | ((first | apply w_oslo | apply w_oshi | apply w_stbii); iterate 4 exact rfl)
  | (apply w_build1; exact rfl; exact rfl; (first | exact one_val rfl rfl | exact one_ints | exact one_intss | exact one_own rfl True.intro))
  | (apply w_build2; exact rfl; exact rfl; exact rfl; (first | exact one_val rfl rfl | exact one_ints | exact one_intss | exact one_own rfl True.intro); (first | exact one_val rfl rfl | exact one_ints | exact one_intss | exact one_own rfl True.intro))
  | (apply w_bs0; iterate 1 exact rfl)
  | (apply w_appn; exact rfl; exact rfl; (first | exact .ints _ | exact .sli rfl | exact .orow rfl | exact .nil | exact .osub rfl (by simp; omega)); exact rfl)
  | (apply w_app; exact rfl; exact rfl; exact rfl; exact rfl; (first | exact .ints _ | exact .sli rfl | exact .orow rfl | exact .nil | exact .osub rfl (by simp; omega)); rotate_left 1; simp only [Env.mp, List.map_cons, List.map_nil, List.set_cons_zero, List.set_cons_succ, AV.kill, AV.kill1, AO.kill, AV.noRow, AV.noRow1, AO.via, reduceIte, Nat.reduceEqDiff, Nat.reduceLT, Env.up, Nat.zero_ne_one, Nat.one_ne_zero, Nat.reduceAdd, List.cons_append, List.nil_append]; rotate_left 1)
  | (apply w_alst; iterate 2 exact rfl)
  | (apply w_alone; iterate 3 exact rfl)
  | (apply w_mki; exact rfl; exact rfl; rotate_left 3; exact rfl; rotate_left 1)
  | (apply w_sti; exact rfl; exact rfl; rotate_left 1; exact rfl; rotate_left 2)
  | (apply w_stst; iterate 5 exact rfl)
  | (apply w_stbv; iterate 6 exact rfl)
  | (apply w_stbo; exact rfl; exact rfl; exact rfl; exact rfl; exact rfl; exact True.intro)
  | ((apply AOps.splitB; exact rfl; exact rfl) <;> intro h)
  | apply AllOf.nil
  | (apply AllOf.cons; exact rfl)
  | (apply AAny.take; exact rfl; exact rfl; kernel_rfl; kernel_rfl)
  | (apply AAny.all; exact rfl)
  | (apply AAny.done; exact rfl)
  | (apply inI_of <;> omega)
  | omega
  | (simp <;> omega))
    first
      | (all_goals exact ⟨i + 1, by omega, by omega, ⟨lee rfl (by (repeat (first | exact le_nil | refine le_eq rfl rfl ?_ | refine le_eq rfl (congrArg AV.i (by omega)) ?_ | refine le_eq rfl (congrArg AV.i (e6)) ?_))), by (repeat (first | exact lo_nil | refine lo_dead ?_ | refine lo_eq rfl ?_ | refine lo_eq (congrArg (AO.sli _) (e6)) ?_ | refine lo_eq (congrArg (AO.sls _ _) (e6)) ?_)), rfl, rfl⟩⟩; done)
      | (refine AWp.regionA (by kernel_rfl) (envC := ⟨30, [(0, .ints cs), (1, .i k), (5, .own 0), (6, .i i)]⟩) (osC := [.sli 2 ((spL cs k.toNat (((cs.length : Int) - 1) * k + 1).toNat i).set ((i : Int) * k).toNat (geti cs i))]) rfl rfl ?_ ?_
         · repeat' (first
  | (apply AOps.nil; try simp only [List.nil_append, List.cons_append, List.set_cons_zero, List.set_cons_succ, List.length_cons, List.length_nil, Nat.reduceAdd, AV.sh, AV.sh1, AV.sh0, AO.sh, List.map_cons, List.map_nil, Nat.zero_add, Nat.add_zero, setAll])
  | ((apply AOps.splitP; exact rfl; exact rfl) <;> intro h)
  | ((apply AOps.splitN; exact rfl; exact rfl) <;> intro h)
  | (apply w_move; exact rfl; exact rfl)
  | (apply w_assign; exact rfl; exact rfl)
  | apply AWp.seq
  | apply AWp.region
  | ((apply AWp.condP; exact rfl) <;> intro h)
  | ((apply AWp.condN; exact rfl) <;> intro h)
  | (apply AWp.condT; exact rfl)
  | (apply AWp.condF; exact rfl)
  | ((apply AWp.condB; exact rfl) <;> intro h)
  | apply AWp.block
  | apply AWp.ret
  | apply AWp.exit
  | apply AWp.skip
  | (apply AWp.regionQ; kernel_rfl; kernel_rfl)
  | (apply if_pos'; exact rfl)
  | (apply if_neg'; decide)
  | (apply w_skip; exact rfl)
  | (apply w_pickT; exact rfl; exact rfl; exact rfl)
  | (apply w_pickF; exact rfl; exact rfl; exact rfl)
  | (apply w_len; exact rfl; exact rfl; first | exact .ints _ | exact .intss _ | exact .sli rfl | exact .sls rfl | exact .slr rfl | exact .orow rfl | exact .nil)
  | ((first | apply w_lss | apply w_leq | apply w_gtr | apply w_geq | apply w_eql | apply w_neq | apply w_add | apply w_sub | apply w_mul | apply w_idx | apply w_ld | apply w_fld | apply w_fa | apply w_extv | apply w_min | apply w_max | apply w_slhi | apply w_sllo | apply w_bs2); iterate 3 exact rfl)
  | ((first | apply w_eqlb | apply w_neqb | apply w_idxs | apply w_lds | apply w_ext); iterate 3 exact rfl)
  | (apply w_rem; exact rfl; exact rfl; exact rfl; (focus (omega; done)); (focus (omega; done)))
  | (apply w_quo; exact rfl; exact rfl; exact rfl; (focus (omega; done)); (focus (omega; done)))
  | (apply w_remT; exact rfl; exact rfl; exact rfl)
  | (apply w_quoT; exact rfl; exact rfl; exact rfl)
  | ((first | apply w_not | apply w_neg | apply w_conv | apply w_build0 | apply w_bs1 | apply w_boxa); iterate 2 exact rfl)
  | (apply w_idxo; exact rfl; exact rfl; (first | exact .sli rfl | exact .sls rfl | exact .slr rfl); exact rfl)
  | ((first | apply w_idxr | apply w_ldr); iterate 4 exact rfl)
  | (apply w_ldo; iterate 4 exact rfl)
  | (apply w_ldls; iterate 4 exact rfl)
  | (apply w_ldrp; iterate 4 exact rfl)
  | (apply w_ldb; iterate 5 exact rfl)
  | (apply w_ldst; iterate 5 exact rfl)
  | ((first | apply w_sllh | apply w_stbi); iterate 4 exact rfl)
  | ((first | apply w_oslo | apply w_oshi | apply w_stbii); iterate 4 exact rfl)
  | (apply w_build1; exact rfl; exact rfl; (first | exact one_val rfl rfl | exact one_ints | exact one_intss | exact one_own rfl True.intro))
  | (apply w_build2; exact rfl; exact rfl; exact rfl; (first | exact one_val rfl rfl | exact one_ints | exact one_intss | exact one_own rfl True.intro); (first | exact one_val rfl rfl | exact one_ints | exact one_intss | exact one_own rfl True.intro))
  | (apply w_bs0; iterate 1 exact rfl)
  | (apply w_appn; exact rfl; exact rfl; (first | exact .ints _ | exact .sli rfl | exact .orow rfl | exact .nil | exact .osub rfl (by simp; omega)); exact rfl)
  | (apply w_app; exact rfl; exact rfl; exact rfl; exact rfl; (first | exact .ints _ | exact .sli rfl | exact .orow rfl | exact .nil | exact .osub rfl (by simp; omega)); rotate_left 1; simp only [Env.mp, List.map_cons, List.map_nil, List.set_cons_zero, List.set_cons_succ, AV.kill, AV.kill1, AO.kill, AV.noRow, AV.noRow1, AO.via, reduceIte, Nat.reduceEqDiff, Nat.reduceLT, Env.up, Nat.zero_ne_one, Nat.one_ne_zero, Nat.reduceAdd, List.cons_append, List.nil_append]; rotate_left 1)
  | (apply w_alst; iterate 2 exact rfl)
  | (apply w_alone; iterate 3 exact rfl)
  | (apply w_mki; exact rfl; exact rfl; rotate_left 3; exact rfl; rotate_left 1)
  | (apply w_sti; exact rfl; exact rfl; rotate_left 1; exact rfl; rotate_left 2)
  | (apply w_stst; iterate 5 exact rfl)
  | (apply w_stbv; iterate 6 exact rfl)
  | (apply w_stbo; exact rfl; exact rfl; exact rfl; exact rfl; exact rfl; exact True.intro)
  | ((apply AOps.splitB; exact rfl; exact rfl) <;> intro h)
  | apply AllOf.nil
  | (apply AllOf.cons; exact rfl)
  | (apply AAny.take; exact rfl; exact rfl; kernel_rfl; kernel_rfl)
  | (apply AAny.all; exact rfl)
  | (apply AAny.done; exact rfl)
  | (apply inI_of <;> omega)
  | omega
  | (simp <;> omega))
           all_goals (first | (apply Or.inl; refine ⟨lee rfl ?_, ?_, rfl, rfl⟩; (focus ((repeat (first | exact le_nil | refine le_eq rfl rfl ?_ | (refine le_eq rfl (congrArg AV.i ?_) ?_; (focus (omega; done))))); done)); (focus ((repeat (first | exact lo_nil | refine lo_dead ?_ | refine lo_eq rfl ?_)); done))))
         repeat' (first
  | (apply AOps.nil; try simp only [List.nil_append, List.cons_append, List.set_cons_zero, List.set_cons_succ, List.length_cons, List.length_nil, Nat.reduceAdd, AV.sh, AV.sh1, AV.sh0, AO.sh, List.map_cons, List.map_nil, Nat.zero_add, Nat.add_zero, setAll])
  | ((apply AOps.splitP; exact rfl; exact rfl) <;> intro h)
  | ((apply AOps.splitN; exact rfl; exact rfl) <;> intro h)
  | (apply w_move; exact rfl; exact rfl)
  | (apply w_assign; exact rfl; exact rfl)
  | apply AWp.seq
  | apply AWp.region
  | ((apply AWp.condP; exact rfl) <;> intro h)
  | ((apply AWp.condN; exact rfl) <;> intro h)
  | (apply AWp.condT; exact rfl)
  | (apply AWp.condF; exact rfl)
  | ((apply AWp.condB; exact rfl) <;> intro h)
  | apply AWp.block
  | apply AWp.ret
  | apply AWp.exit
  | apply AWp.skip
  | (apply if_pos'; exact rfl)
  | (apply if_neg'; decide)
  | (apply w_skip; exact rfl)
  | (apply w_pickT; exact rfl; exact rfl; exact rfl)
  | (apply w_pickF; exact rfl; exact rfl; exact rfl)
  | (apply w_len; exact rfl; exact rfl; first | exact .ints _ | exact .intss _ | exact .sli rfl | exact .sls rfl | exact .slr rfl | exact .orow rfl | exact .nil)
  | omega
  | ((first | apply w_lss | apply w_leq | apply w_gtr | apply w_geq | apply w_eql | apply w_neq | apply w_add | apply w_sub | apply w_mul | apply w_idx | apply w_ld | apply w_fld | apply w_fa | apply w_extv | apply w_min | apply w_max | apply w_slhi | apply w_sllo | apply w_bs2); iterate 3 exact rfl)
  | ((first | apply w_eqlb | apply w_neqb | apply w_idxs | apply w_lds | apply w_ext); iterate 3 exact rfl)
  | (apply w_rem; exact rfl; exact rfl; exact rfl; (focus (omega; done)); (focus (omega; done)))
  | (apply w_quo; exact rfl; exact rfl; exact rfl; (focus (omega; done)); (focus (omega; done)))
  | (apply w_remT; exact rfl; exact rfl; exact rfl)
  | (apply w_quoT; exact rfl; exact rfl; exact rfl)
  | ((first | apply w_not | apply w_neg | apply w_conv | apply w_build0 | apply w_bs1 | apply w_boxa); iterate 2 exact rfl)
  | (apply w_idxo; exact rfl; exact rfl; (first | exact .sli rfl | exact .sls rfl | exact .slr rfl); exact rfl)
  | ((first | apply w_idxr | apply w_ldr); iterate 4 exact rfl)
  | (apply w_ldo; iterate 4 exact rfl)
  | (apply w_ldls; iterate 4 exact rfl)
  | (apply w_ldrp; iterate 4 exact rfl)
  | (apply w_ldb; iterate 5 exact rfl)
  | (apply w_ldst; iterate 5 exact rfl)
  | ((first | apply w_sllh | apply w_stbi); iterate 4 exact rfl)
  | ((first | apply w_oslo | apply w_oshi | apply w_stbii); iterate 4 exact rfl)
  | (apply w_build1; exact rfl; exact rfl; (first | exact one_val rfl rfl | exact one_ints | exact one_intss | exact one_own rfl True.intro))
  | (apply w_build2; exact rfl; exact rfl; exact rfl; (first | exact one_val rfl rfl | exact one_ints | exact one_intss | exact one_own rfl True.intro); (first | exact one_val rfl rfl | exact one_ints | exact one_intss | exact one_own rfl True.intro))
  | (apply w_bs0; iterate 1 exact rfl)
  | (apply w_appn; exact rfl; exact rfl; (first | exact .ints _ | exact .sli rfl | exact .orow rfl | exact .nil | exact .osub rfl (by simp; omega)); exact rfl)
  | (apply w_app; exact rfl; exact rfl; exact rfl; exact rfl; (first | exact .ints _ | exact .sli rfl | exact .orow rfl | exact .nil | exact .osub rfl (by simp; omega)); rotate_left 1; simp only [Env.mp, List.map_cons, List.map_nil, List.set_cons_zero, List.set_cons_succ, AV.kill, AV.kill1, AO.kill, AV.noRow, AV.noRow1, AO.via, reduceIte, Nat.reduceEqDiff, Nat.reduceLT, Env.up, Nat.zero_ne_one, Nat.one_ne_zero, Nat.reduceAdd, List.cons_append, List.nil_append]; rotate_left 1)
  | (apply w_alst; iterate 2 exact rfl)
  | (apply w_alone; iterate 3 exact rfl)
  | (apply w_mki; exact rfl; exact rfl; rotate_left 3; exact rfl; rotate_left 1)
  | (apply w_sti; exact rfl; exact rfl; rotate_left 1; exact rfl; rotate_left 2)
  | (apply w_stst; iterate 5 exact rfl)
  | (apply w_stbv; iterate 6 exact rfl)
  | (apply w_stbo; exact rfl; exact rfl; exact rfl; exact rfl; exact rfl; exact True.intro)
  | ((apply AOps.splitB; exact rfl; exact rfl) <;> intro h)
  | apply AllOf.nil
  | (apply AllOf.cons; exact rfl)
  | (apply AAny.take; exact rfl; exact rfl; kernel_rfl; kernel_rfl)
  | (apply AAny.all; exact rfl)
  | (apply AAny.done; exact rfl)
  | (apply inI_of <;> omega)
  | omega
  | (simp <;> omega))
         all_goals exact ⟨i + 1, by omega, by omega, ⟨lee rfl (by (repeat (first | exact le_nil | refine le_eq rfl rfl ?_ | refine le_eq rfl (congrArg AV.i (by omega)) ?_ | refine le_eq rfl (congrArg AV.i (e6)) ?_))), by (repeat (first | exact lo_nil | refine lo_dead ?_ | refine lo_eq rfl ?_ | refine lo_eq (congrArg (AO.sli _) (e6)) ?_ | refine lo_eq (congrArg (AO.sls _ _) (e6)) ?_)), rfl, rfl⟩⟩)
  · repeat' (first
  | (apply AOps.nil; try simp only [List.nil_append, List.cons_append, List.set_cons_zero, List.set_cons_succ, List.length_cons, List.length_nil, Nat.reduceAdd, AV.sh, AV.sh1, AV.sh0, AO.sh, List.map_cons, List.map_nil, Nat.zero_add, Nat.add_zero, setAll])
  | ((apply AOps.splitP; exact rfl; exact rfl) <;> intro h)
  | ((apply AOps.splitN; exact rfl; exact rfl) <;> intro h)
  | (apply w_move; exact rfl; exact rfl)
  | (apply w_assign; exact rfl; exact rfl)
  | apply AWp.seq
  | apply AWp.region
  | ((apply AWp.condP; exact rfl) <;> intro h)
  | ((apply AWp.condN; exact rfl) <;> intro h)
  | (apply AWp.condT; exact rfl)
  | (apply AWp.condF; exact rfl)
  | ((apply AWp.condB; exact rfl) <;> intro h)
  | apply AWp.block
  | apply AWp.ret
  | apply AWp.exit
  | apply AWp.skip
  | (apply if_pos'; exact rfl)
  | (apply if_neg'; decide)
  | (apply w_skip; exact rfl)
  | (apply w_pickT; exact rfl; exact rfl; exact rfl)
  | (apply w_pickF; exact rfl; exact rfl; exact rfl)
  | (apply w_len; exact rfl; exact rfl; first | exact .ints _ | exact .intss _ | exact .sli rfl | exact .sls rfl | exact .slr rfl | exact .orow rfl | exact .nil)
  | omega
  | ((first | apply w_lss | apply w_leq | apply w_gtr | apply w_geq | apply w_eql | apply w_neq | apply w_add | apply w_sub | apply w_mul | apply w_idx | apply w_ld | apply w_fld | apply w_fa | apply w_extv | apply w_min | apply w_max | apply w_slhi | apply w_sllo | apply w_bs2); iterate 3 exact rfl)
  | ((first | apply w_eqlb | apply w_neqb | apply w_idxs | apply w_lds | apply w_ext); iterate 3 exact rfl)
  | (apply w_rem; exact rfl; exact rfl; exact rfl; (focus (omega; done)); (focus (omega; done)))
  | (apply w_quo; exact rfl; exact rfl; exact rfl; (focus (omega; done)); (focus (omega; done)))
  | (apply w_remT; exact rfl; exact rfl; exact rfl)
  | (apply w_quoT; exact rfl; exact rfl; exact rfl)
  | ((first | apply w_not | apply w_neg | apply w_conv | apply w_build0 | apply w_bs1 | apply w_boxa); iterate 2 exact rfl)
  | (apply w_idxo; exact rfl; exact rfl; (first | exact .sli rfl | exact .sls rfl | exact .slr rfl); exact rfl)
  | ((first | apply w_idxr | apply w_ldr); iterate 4 exact rfl)
  | (apply w_ldo; iterate 4 exact rfl)
  | (apply w_ldls; iterate 4 exact rfl)
  | (apply w_ldrp; iterate 4 exact rfl)
  | (apply w_ldb; iterate 5 exact rfl)
  | (apply w_ldst; iterate 5 exact rfl)
  | ((first | apply w_sllh | apply w_stbi); iterate 4 exact rfl)
  | ((first | apply w_oslo | apply w_oshi | apply w_stbii); iterate 4 exact rfl)
  | (apply w_build1; exact rfl; exact rfl; (first | exact one_val rfl rfl | exact one_ints | exact one_intss | exact one_own rfl True.intro))
  | (apply w_build2; exact rfl; exact rfl; exact rfl; (first | exact one_val rfl rfl | exact one_ints | exact one_intss | exact one_own rfl True.intro); (first | exact one_val rfl rfl | exact one_ints | exact one_intss | exact one_own rfl True.intro))
  | (apply w_bs0; iterate 1 exact rfl)
  | (apply w_appn; exact rfl; exact rfl; (first | exact .ints _ | exact .sli rfl | exact .orow rfl | exact .nil | exact .osub rfl (by simp; omega)); exact rfl)
  | (apply w_app; exact rfl; exact rfl; exact rfl; exact rfl; (first | exact .ints _ | exact .sli rfl | exact .orow rfl | exact .nil | exact .osub rfl (by simp; omega)); rotate_left 1; simp only [Env.mp, List.map_cons, List.map_nil, List.set_cons_zero, List.set_cons_succ, AV.kill, AV.kill1, AO.kill, AV.noRow, AV.noRow1, AO.via, reduceIte, Nat.reduceEqDiff, Nat.reduceLT, Env.up, Nat.zero_ne_one, Nat.one_ne_zero, Nat.reduceAdd, List.cons_append, List.nil_append]; rotate_left 1)
  | (apply w_alst; iterate 2 exact rfl)
  | (apply w_alone; iterate 3 exact rfl)
  | (apply w_mki; exact rfl; exact rfl; rotate_left 3; exact rfl; rotate_left 1)
  | (apply w_sti; exact rfl; exact rfl; rotate_left 1; exact rfl; rotate_left 2)
  | (apply w_stst; iterate 5 exact rfl)
  | (apply w_stbv; iterate 6 exact rfl)
  | (apply w_stbo; exact rfl; exact rfl; exact rfl; exact rfl; exact rfl; exact True.intro)
  | ((apply AOps.splitB; exact rfl; exact rfl) <;> intro h)
  | apply AllOf.nil
  | (apply AllOf.cons; exact rfl)
  | (apply AAny.take; exact rfl; exact rfl; kernel_rfl; kernel_rfl)
  | (apply AAny.all; exact rfl)
  | (apply AAny.done; exact rfl)
  | (apply inI_of <;> omega)
  | omega
  | (simp <;> omega))
    have e : i = cs.length := by omega
    subst e
    exact ⟨_, _, _, .v1 Try.results100 rfl, .sli rfl, rfl, rfl⟩

/-- New contacts, and whether all are there. -/
def IsCt2 (T : TypeId) (l : List Int) (ok : Bool) (r : AV) (os : List AO) : Prop := r = .tup [.own 0, .b ok] ∧ os = [.sli T l]
theorem farL {cs : List Int} {k : Int} (hk : 0 ≤ k) (hl : 1 ≤ cs.length) {s : Nat} (h : (((cs.length : Int) - 1) * k + 1).toNat ≤ s) : val cs k.toNat cs.length s = 0 := by
  refine val_far cs k.toNat cs.length s fun i hi => ?_
  have b1 := mulLe (i := (i : Int)) (l := (cs.length : Int) - 1) (k := k) (by omega) hk
  have b0 : 0 ≤ ((cs.length : Int) - 1) * k := Int.mul_nonneg (by omega) hk
  have et : ((i * k.toNat : Nat) : Int) = (i : Int) * k := by
    obtain ⟨k', rfl⟩ := Int.eq_ofNat_of_zero_le hk
    rw [Int.toNat_natCast]; rfl
  omega

attribute [local irreducible] spL rtL conjK ctD dif
set_option maxHeartbeats 8000000 in
theorem l16Contacts_c (n m : Nat) (a b : List Int) (h1 : isSerB n a = true) (h2 : isSerB m b = true) : AFn Try.prog 88 [.agg [.i n, .ints a], .agg [.i m, .ints b]] (IsCt2 2 (coL n m a b) (coK n m a b)) := by
  obtain ⟨s1, s2, s3, s4, s5⟩ := isSerB_n h1
  obtain ⟨t1, t2, t3, t4, t5⟩ := isSerB_n h2
  have ok := ctOk (n := n) (m := m) (by omega) (by omega)
  obtain ⟨o1, o2, o3, o4, o5, o6⟩ := ok
  have m1 : mid (n : Int) := by unfold mid; omega
  have m2 : mid (m : Int) := by unfold mid; omega
  have hS : 80 * max (cA n m) (cB n m) < cS n m ∧ cS n m ≤ 20000 ∧ cS n m = 80 * max (cA n m) (cB n m) + 1 := by unfold cS; omega
  obtain ⟨S, eS⟩ : ∃ x : Nat, x = (cS n m).toNat := ⟨_, rfl⟩
  have hp1 := l16Spread_c a (isSerB_get h1) (cA n m) (by omega) (by omega)
  have hr := l16Roots_c m (by omega)
  have rl := rtL_len m
  have L1b := mulK (i := (a.length : Int) - 1) (k := cA n m) (c := max (cA n m) (cB n m)) (by omega) (by omega) (by omega) (by omega)
  have oC : 0 ≤ cC n m ∧ cC n m ≤ 144 := o3
  obtain ⟨La, eLa⟩ : ∃ x : Nat, x = (((a.length : Int) - 1) * cA n m + 1).toNat := ⟨_, rfl⟩
  have bLa : La ≤ S := by omega
  have bS : S ≤ 20000 := by omega
  obtain ⟨sa, esa⟩ : ∃ l, l = spL a (cA n m).toNat La a.length := ⟨_, rfl⟩
  obtain ⟨fa, efa⟩ : ∃ f, f = val a (cA n m).toNat a.length := ⟨_, rfl⟩
  rw [← eLa, ← esa] at hp1
  have la : sa.length = La := by rw [esa]; exact spL_len _ _ _ _
  have ga : ∀ s : Nat, s < La → geti sa (((s : Int).toNat : Nat) : Int) = fa s := fun s h => by rw [esa, efa]; exact spL_get a _ _ _ s h
  have za : ∀ s : Nat, La ≤ s → fa s = 0 := fun s h => by rw [efa]; exact farL (by omega) (by omega) (by omega)
  clear esa eLa L1b
  obtain ⟨ok, eok⟩ : ∃ x, x = coK n m a b := ⟨_, rfl⟩
  obtain ⟨ol, eol⟩ : ∃ x, x = coL n m a b := ⟨_, rfl⟩
  rw [← eok, ← eol]
  refine AFn.start Try.func88 Try.ntmps88 rfl (by kernel_rfl) fun hk => ?_
  simp only [Env.start, enumF, List.length_cons, List.length_nil, Nat.reduceAdd, Nat.reduceSub, List.cons_append, List.nil_append]
  repeat' (first
  | (apply AOps.nil; try simp only [List.nil_append, List.cons_append, List.set_cons_zero, List.set_cons_succ, List.length_cons, List.length_nil, Nat.reduceAdd, AV.sh, AV.sh1, AV.sh0, AO.sh, List.map_cons, List.map_nil, Nat.zero_add, Nat.add_zero, setAll])
  | ((apply AOps.splitP; exact rfl; exact rfl) <;> intro h)
  | ((apply AOps.splitN; exact rfl; exact rfl) <;> intro h)
  | (apply w_move; exact rfl; exact rfl)
  | (apply w_assign; exact rfl; exact rfl)
  | apply AWp.seq
  | apply AWp.region
  | ((apply AWp.condP; exact rfl) <;> intro h)
  | ((apply AWp.condN; exact rfl) <;> intro h)
  | (apply AWp.condT; exact rfl)
  | (apply AWp.condF; exact rfl)
  | ((apply AWp.condB; exact rfl) <;> intro h)
  | apply AWp.block
  | apply AWp.ret
  | apply AWp.exit
  | apply AWp.skip
  | (apply if_pos'; exact rfl)
  | (apply if_neg'; decide)
  | (apply w_skip; exact rfl)
  | (apply w_pickT; exact rfl; exact rfl; exact rfl)
  | (apply w_pickF; exact rfl; exact rfl; exact rfl)
  | (apply w_len; exact rfl; exact rfl; first | exact .ints _ | exact .intss _ | exact .sli rfl | exact .sls rfl | exact .slr rfl | exact .orow rfl | exact .nil)
  | omega
  | ((first | apply w_lss | apply w_leq | apply w_gtr | apply w_geq | apply w_eql | apply w_neq | apply w_add | apply w_sub | apply w_mul | apply w_idx | apply w_ld | apply w_fld | apply w_fa | apply w_extv | apply w_min | apply w_max | apply w_slhi | apply w_sllo | apply w_bs2); iterate 3 exact rfl)
  | ((first | apply w_eqlb | apply w_neqb | apply w_idxs | apply w_lds | apply w_ext); iterate 3 exact rfl)
  | (apply w_rem; exact rfl; exact rfl; exact rfl; (focus (omega; done)); (focus (omega; done)))
  | (apply w_quo; exact rfl; exact rfl; exact rfl; (focus (omega; done)); (focus (omega; done)))
  | (apply w_remT; exact rfl; exact rfl; exact rfl)
  | (apply w_quoT; exact rfl; exact rfl; exact rfl)
  | ((first | apply w_not | apply w_neg | apply w_conv | apply w_build0 | apply w_bs1 | apply w_boxa); iterate 2 exact rfl)
  | (apply w_idxo; exact rfl; exact rfl; (first | exact .sli rfl | exact .sls rfl | exact .slr rfl); exact rfl)
  | ((first | apply w_idxr | apply w_ldr); iterate 4 exact rfl)
  | (apply w_ldo; iterate 4 exact rfl)
  | (apply w_ldls; iterate 4 exact rfl)
  | (apply w_ldrp; iterate 4 exact rfl)
  | (apply w_ldb; iterate 5 exact rfl)
  | (apply w_ldst; iterate 5 exact rfl)
  | ((first | apply w_sllh | apply w_stbi); iterate 4 exact rfl)
  | ((first | apply w_oslo | apply w_oshi | apply w_stbii); iterate 4 exact rfl)
  | (apply w_build1; exact rfl; exact rfl; (first | exact one_val rfl rfl | exact one_ints | exact one_intss | exact one_own rfl True.intro))
  | (apply w_build2; exact rfl; exact rfl; exact rfl; (first | exact one_val rfl rfl | exact one_ints | exact one_intss | exact one_own rfl True.intro); (first | exact one_val rfl rfl | exact one_ints | exact one_intss | exact one_own rfl True.intro))
  | (apply w_bs0; iterate 1 exact rfl)
  | (apply w_appn; exact rfl; exact rfl; (first | exact .ints _ | exact .sli rfl | exact .orow rfl | exact .nil | exact .osub rfl (by simp; omega)); exact rfl)
  | (apply w_app; exact rfl; exact rfl; exact rfl; exact rfl; (first | exact .ints _ | exact .sli rfl | exact .orow rfl | exact .nil | exact .osub rfl (by simp; omega)); rotate_left 1; simp only [Env.mp, List.map_cons, List.map_nil, List.set_cons_zero, List.set_cons_succ, AV.kill, AV.kill1, AO.kill, AV.noRow, AV.noRow1, AO.via, reduceIte, Nat.reduceEqDiff, Nat.reduceLT, Env.up, Nat.zero_ne_one, Nat.one_ne_zero, Nat.reduceAdd, List.cons_append, List.nil_append]; rotate_left 1)
  | (apply w_alst; iterate 2 exact rfl)
  | (apply w_alone; iterate 3 exact rfl)
  | (apply w_mki; exact rfl; exact rfl; rotate_left 3; exact rfl; rotate_left 1)
  | (apply w_sti; exact rfl; exact rfl; rotate_left 1; exact rfl; rotate_left 2)
  | (apply w_stst; iterate 5 exact rfl)
  | (apply w_stbv; iterate 6 exact rfl)
  | (apply w_stbo; exact rfl; exact rfl; exact rfl; exact rfl; exact rfl; exact True.intro)
  | ((apply AOps.splitB; exact rfl; exact rfl) <;> intro h)
  | apply AllOf.nil
  | (apply AllOf.cons; exact rfl)
  | (apply AAny.take; exact rfl; exact rfl; kernel_rfl; kernel_rfl)
  | (apply AAny.all; exact rfl)
  | (apply AAny.done; exact rfl)
  | (apply inI_of <;> omega)
  | omega
  | (simp <;> omega))
  refine AWp.regionQ (by kernel_rfl) (by kernel_rfl) ?_
  repeat' (first
  | (apply AOps.nil; try simp only [List.nil_append, List.cons_append, List.set_cons_zero, List.set_cons_succ, List.length_cons, List.length_nil, Nat.reduceAdd, AV.sh, AV.sh1, AV.sh0, AO.sh, List.map_cons, List.map_nil, Nat.zero_add, Nat.add_zero, setAll])
  | ((apply AOps.splitP; exact rfl; exact rfl) <;> intro h)
  | ((apply AOps.splitN; exact rfl; exact rfl) <;> intro h)
  | (apply w_move; exact rfl; exact rfl)
  | (apply w_assign; exact rfl; exact rfl)
  | apply AWp.seq
  | apply AWp.region
  | ((apply AWp.condP; exact rfl) <;> intro h)
  | ((apply AWp.condN; exact rfl) <;> intro h)
  | (apply AWp.condT; exact rfl)
  | (apply AWp.condF; exact rfl)
  | ((apply AWp.condB; exact rfl) <;> intro h)
  | apply AWp.block
  | apply AWp.ret
  | apply AWp.exit
  | apply AWp.skip
  | (apply if_pos'; exact rfl)
  | (apply if_neg'; decide)
  | (apply w_skip; exact rfl)
  | (apply w_pickT; exact rfl; exact rfl; exact rfl)
  | (apply w_pickF; exact rfl; exact rfl; exact rfl)
  | (apply w_len; exact rfl; exact rfl; first | exact .ints _ | exact .intss _ | exact .sli rfl | exact .sls rfl | exact .slr rfl | exact .orow rfl | exact .nil)
  | (apply w_call (l01Gcd_c _ _ m1 m2); exact rfl; exact rfl; focus ((repeat (first | exact im_nil | refine im_cons rfl (.val _) ?_ | refine im_cons rfl (.ints _) ?_ | refine im_cons rfl (.intss _) ?_ | refine im_cons rfl (.sli rfl) ?_ | refine im_cons rfl (.sls rfl) ?_ | refine im_cons rfl (.slr rfl) ?_ | refine im_cons rfl (.orow rfl) ?_ | refine im_cons rfl (.osub rfl (by simp; omega)) ?_ | refine im_cons rfl (.nil) ?_ | refine im_cons rfl (.nils) ?_ | refine im_cons rfl (im_agg2 (.val _) (.ints _)) ?_ | refine im_cons rfl (im_agg2 (.val _) (.sli rfl)) ?_ | refine im_cons rfl (im_agg2 (.val _) (.nil)) ?_ | refine im_cons rfl (im_agg2 (.ints _) (.intss _)) ?_ | refine im_cons rfl (im_agg2 (.ints _) (.sls rfl)) ?_ | refine im_cons rfl (im_agg2 (.sli rfl) (.intss _)) ?_ | refine im_cons rfl (im_agg2 (.sli rfl) (.sls rfl)) ?_ | refine im_cons rfl (im_agg1 (.ints _)) ?_ | refine im_cons rfl (im_agg1 (.sli rfl)) ?_ | refine im_cons rfl (im_agg1 (.intss _)) ?_ | refine im_cons rfl (im_agg1 (.sls rfl)) ?_ | refine im_cons rfl (im_agg1 (.slr rfl)) ?_ | refine im_cons rfl (im_agg1 (.nil)) ?_ | refine im_cons rfl (im_agg1 (.nils)) ?_)); done))
  | (apply w_callm (hr); (focus ((repeat (first | exact im_nil | refine im_cons rfl (.val _) ?_ | refine im_cons rfl (.ints _) ?_ | refine im_cons rfl (.intss _) ?_ | refine im_cons rfl (.sli rfl) ?_ | refine im_cons rfl (.sls rfl) ?_ | refine im_cons rfl (.slr rfl) ?_ | refine im_cons rfl (.orow rfl) ?_ | refine im_cons rfl (.osub rfl (by simp; omega)) ?_ | refine im_cons rfl (.nil) ?_ | refine im_cons rfl (.nils) ?_ | refine im_cons rfl (im_agg2 (.val _) (.ints _)) ?_ | refine im_cons rfl (im_agg2 (.val _) (.sli rfl)) ?_ | refine im_cons rfl (im_agg2 (.val _) (.nil)) ?_ | refine im_cons rfl (im_agg2 (.ints _) (.intss _)) ?_ | refine im_cons rfl (im_agg2 (.ints _) (.sls rfl)) ?_ | refine im_cons rfl (im_agg2 (.sli rfl) (.intss _)) ?_ | refine im_cons rfl (im_agg2 (.sli rfl) (.sls rfl)) ?_ | refine im_cons rfl (im_agg1 (.ints _)) ?_ | refine im_cons rfl (im_agg1 (.sli rfl)) ?_ | refine im_cons rfl (im_agg1 (.intss _)) ?_ | refine im_cons rfl (im_agg1 (.sls rfl)) ?_ | refine im_cons rfl (im_agg1 (.slr rfl)) ?_ | refine im_cons rfl (im_agg1 (.nil)) ?_ | refine im_cons rfl (im_agg1 (.nils)) ?_)); done)); rintro r os0 ⟨rfl, rfl⟩; try simp only [List.nil_append, List.cons_append, List.set_cons_zero, List.set_cons_succ, List.length_cons, List.length_nil, Nat.reduceAdd, AV.sh, AV.sh1, AV.sh0, AO.sh, List.map_cons, List.map_nil, Nat.zero_add, Nat.add_zero, setAll])
  | omega
  | ((first | apply w_lss | apply w_leq | apply w_gtr | apply w_geq | apply w_eql | apply w_neq | apply w_add | apply w_sub | apply w_mul | apply w_idx | apply w_ld | apply w_fld | apply w_fa | apply w_extv | apply w_min | apply w_max | apply w_slhi | apply w_sllo | apply w_bs2); iterate 3 exact rfl)
  | ((first | apply w_eqlb | apply w_neqb | apply w_idxs | apply w_lds | apply w_ext); iterate 3 exact rfl)
  | (apply w_rem; exact rfl; exact rfl; exact rfl; (focus (omega; done)); (focus (omega; done)))
  | (apply w_quo; exact rfl; exact rfl; exact rfl; (focus (omega; done)); (focus (omega; done)))
  | (apply w_remT; exact rfl; exact rfl; exact rfl)
  | (apply w_quoT; exact rfl; exact rfl; exact rfl)
  | ((first | apply w_not | apply w_neg | apply w_conv | apply w_build0 | apply w_bs1 | apply w_boxa); iterate 2 exact rfl)
  | (apply w_idxo; exact rfl; exact rfl; (first | exact .sli rfl | exact .sls rfl | exact .slr rfl); exact rfl)
  | ((first | apply w_idxr | apply w_ldr); iterate 4 exact rfl)
  | (apply w_ldo; iterate 4 exact rfl)
  | (apply w_ldls; iterate 4 exact rfl)
  | (apply w_ldrp; iterate 4 exact rfl)
  | (apply w_ldb; iterate 5 exact rfl)
  | (apply w_ldst; iterate 5 exact rfl)
  | ((first | apply w_sllh | apply w_stbi); iterate 4 exact rfl)
  | ((first | apply w_oslo | apply w_oshi | apply w_stbii); iterate 4 exact rfl)
  | (apply w_build1; exact rfl; exact rfl; (first | exact one_val rfl rfl | exact one_ints | exact one_intss | exact one_own rfl True.intro))
  | (apply w_build2; exact rfl; exact rfl; exact rfl; (first | exact one_val rfl rfl | exact one_ints | exact one_intss | exact one_own rfl True.intro); (first | exact one_val rfl rfl | exact one_ints | exact one_intss | exact one_own rfl True.intro))
  | (apply w_bs0; iterate 1 exact rfl)
  | (apply w_appn; exact rfl; exact rfl; (first | exact .ints _ | exact .sli rfl | exact .orow rfl | exact .nil | exact .osub rfl (by simp; omega)); exact rfl)
  | (apply w_app; exact rfl; exact rfl; exact rfl; exact rfl; (first | exact .ints _ | exact .sli rfl | exact .orow rfl | exact .nil | exact .osub rfl (by simp; omega)); rotate_left 1; simp only [Env.mp, List.map_cons, List.map_nil, List.set_cons_zero, List.set_cons_succ, AV.kill, AV.kill1, AO.kill, AV.noRow, AV.noRow1, AO.via, reduceIte, Nat.reduceEqDiff, Nat.reduceLT, Env.up, Nat.zero_ne_one, Nat.one_ne_zero, Nat.reduceAdd, List.cons_append, List.nil_append]; rotate_left 1)
  | (apply w_alst; iterate 2 exact rfl)
  | (apply w_alone; iterate 3 exact rfl)
  | (apply w_mki; exact rfl; exact rfl; rotate_left 3; exact rfl; rotate_left 1)
  | (apply w_sti; exact rfl; exact rfl; rotate_left 1; exact rfl; rotate_left 2)
  | (apply w_stst; iterate 5 exact rfl)
  | (apply w_stbv; iterate 6 exact rfl)
  | (apply w_stbo; exact rfl; exact rfl; exact rfl; exact rfl; exact rfl; exact True.intro)
  | ((apply AOps.splitB; exact rfl; exact rfl) <;> intro h)
  | apply AllOf.nil
  | (apply AllOf.cons; exact rfl)
  | (apply AAny.take; exact rfl; exact rfl; kernel_rfl; kernel_rfl)
  | (apply AAny.all; exact rfl)
  | (apply AAny.done; exact rfl)
  | (apply inI_of <;> omega)
  | omega
  | (simp <;> omega))
  refine AWp.regionA (by kernel_rfl) (envC := ⟨129, [(3, .optr 1 0), (6, .i (cC n m)), (7, .own 2), (8, .own 3), (9, .own 4)]⟩) (osC := [.bx 27 [.i n, .ints a], .bx 27 [.i m, .ints b], .sli 2 (rtL m), .sli 2 [], .sli 2 sa]) rfl rfl ?_ ?_
  · repeat' (first
  | (apply AOps.nil; try simp only [List.nil_append, List.cons_append, List.set_cons_zero, List.set_cons_succ, List.length_cons, List.length_nil, Nat.reduceAdd, AV.sh, AV.sh1, AV.sh0, AO.sh, List.map_cons, List.map_nil, Nat.zero_add, Nat.add_zero, setAll])
  | ((apply AOps.splitP; exact rfl; exact rfl) <;> intro h)
  | ((apply AOps.splitN; exact rfl; exact rfl) <;> intro h)
  | (apply w_move; exact rfl; exact rfl)
  | (apply w_assign; exact rfl; exact rfl)
  | apply AWp.seq
  | apply AWp.region
  | ((apply AWp.condP; exact rfl) <;> intro h)
  | ((apply AWp.condN; exact rfl) <;> intro h)
  | (apply AWp.condT; exact rfl)
  | (apply AWp.condF; exact rfl)
  | ((apply AWp.condB; exact rfl) <;> intro h)
  | apply AWp.block
  | apply AWp.ret
  | apply AWp.exit
  | apply AWp.skip
  | (apply AWp.regionQ; kernel_rfl; kernel_rfl)
  | (apply if_pos'; exact rfl)
  | (apply if_neg'; decide)
  | (apply w_skip; exact rfl)
  | (apply w_pickT; exact rfl; exact rfl; exact rfl)
  | (apply w_pickF; exact rfl; exact rfl; exact rfl)
  | (apply w_len; exact rfl; exact rfl; first | exact .ints _ | exact .intss _ | exact .sli rfl | exact .sls rfl | exact .slr rfl | exact .orow rfl | exact .nil)
  | (apply w_callm (hp1); (focus ((repeat (first | exact im_nil | refine im_cons rfl (.val _) ?_ | refine im_cons rfl (.ints _) ?_ | refine im_cons rfl (.intss _) ?_ | refine im_cons rfl (.sli rfl) ?_ | refine im_cons rfl (.sls rfl) ?_ | refine im_cons rfl (.slr rfl) ?_ | refine im_cons rfl (.orow rfl) ?_ | refine im_cons rfl (.osub rfl (by simp; omega)) ?_ | refine im_cons rfl (.nil) ?_ | refine im_cons rfl (.nils) ?_ | refine im_cons rfl (im_agg2 (.val _) (.ints _)) ?_ | refine im_cons rfl (im_agg2 (.val _) (.sli rfl)) ?_ | refine im_cons rfl (im_agg2 (.val _) (.nil)) ?_ | refine im_cons rfl (im_agg2 (.ints _) (.intss _)) ?_ | refine im_cons rfl (im_agg2 (.ints _) (.sls rfl)) ?_ | refine im_cons rfl (im_agg2 (.sli rfl) (.intss _)) ?_ | refine im_cons rfl (im_agg2 (.sli rfl) (.sls rfl)) ?_ | refine im_cons rfl (im_agg1 (.ints _)) ?_ | refine im_cons rfl (im_agg1 (.sli rfl)) ?_ | refine im_cons rfl (im_agg1 (.intss _)) ?_ | refine im_cons rfl (im_agg1 (.sls rfl)) ?_ | refine im_cons rfl (im_agg1 (.slr rfl)) ?_ | refine im_cons rfl (im_agg1 (.nil)) ?_ | refine im_cons rfl (im_agg1 (.nils)) ?_)); done)); rintro r os0 ⟨rfl, rfl⟩; try simp only [List.nil_append, List.cons_append, List.set_cons_zero, List.set_cons_succ, List.length_cons, List.length_nil, Nat.reduceAdd, AV.sh, AV.sh1, AV.sh0, AO.sh, List.map_cons, List.map_nil, Nat.zero_add, Nat.add_zero, setAll])
  | omega
  | ((first | apply w_lss | apply w_leq | apply w_gtr | apply w_geq | apply w_eql | apply w_neq | apply w_add | apply w_sub | apply w_mul | apply w_idx | apply w_ld | apply w_fld | apply w_fa | apply w_extv | apply w_min | apply w_max | apply w_slhi | apply w_sllo | apply w_bs2); iterate 3 exact rfl)
  | ((first | apply w_eqlb | apply w_neqb | apply w_idxs | apply w_lds | apply w_ext); iterate 3 exact rfl)
  | (apply w_rem; exact rfl; exact rfl; exact rfl; (focus (omega; done)); (focus (omega; done)))
  | (apply w_quo; exact rfl; exact rfl; exact rfl; (focus (omega; done)); (focus (omega; done)))
  | (apply w_remT; exact rfl; exact rfl; exact rfl)
  | (apply w_quoT; exact rfl; exact rfl; exact rfl)
  | ((first | apply w_not | apply w_neg | apply w_conv | apply w_build0 | apply w_bs1 | apply w_boxa); iterate 2 exact rfl)
  | (apply w_idxo; exact rfl; exact rfl; (first | exact .sli rfl | exact .sls rfl | exact .slr rfl); exact rfl)
  | ((first | apply w_idxr | apply w_ldr); iterate 4 exact rfl)
  | (apply w_ldo; iterate 4 exact rfl)
  | (apply w_ldls; iterate 4 exact rfl)
  | (apply w_ldrp; iterate 4 exact rfl)
  | (apply w_ldb; iterate 5 exact rfl)
  | (apply w_ldst; iterate 5 exact rfl)
  | ((first | apply w_sllh | apply w_stbi); iterate 4 exact rfl)
  | ((first | apply w_oslo | apply w_oshi | apply w_stbii); iterate 4 exact rfl)
  | (apply w_build1; exact rfl; exact rfl; (first | exact one_val rfl rfl | exact one_ints | exact one_intss | exact one_own rfl True.intro))
  | (apply w_build2; exact rfl; exact rfl; exact rfl; (first | exact one_val rfl rfl | exact one_ints | exact one_intss | exact one_own rfl True.intro); (first | exact one_val rfl rfl | exact one_ints | exact one_intss | exact one_own rfl True.intro))
  | (apply w_bs0; iterate 1 exact rfl)
  | (apply w_appn; exact rfl; exact rfl; (first | exact .ints _ | exact .sli rfl | exact .orow rfl | exact .nil | exact .osub rfl (by simp; omega)); exact rfl)
  | (apply w_app; exact rfl; exact rfl; exact rfl; exact rfl; (first | exact .ints _ | exact .sli rfl | exact .orow rfl | exact .nil | exact .osub rfl (by simp; omega)); rotate_left 1; simp only [Env.mp, List.map_cons, List.map_nil, List.set_cons_zero, List.set_cons_succ, AV.kill, AV.kill1, AO.kill, AV.noRow, AV.noRow1, AO.via, reduceIte, Nat.reduceEqDiff, Nat.reduceLT, Env.up, Nat.zero_ne_one, Nat.one_ne_zero, Nat.reduceAdd, List.cons_append, List.nil_append]; rotate_left 1)
  | (apply w_alst; iterate 2 exact rfl)
  | (apply w_alone; iterate 3 exact rfl)
  | (apply w_mki; exact rfl; exact rfl; rotate_left 3; exact rfl; rotate_left 1)
  | (apply w_sti; exact rfl; exact rfl; rotate_left 1; exact rfl; rotate_left 2)
  | (apply w_stst; iterate 5 exact rfl)
  | (apply w_stbv; iterate 6 exact rfl)
  | (apply w_stbo; exact rfl; exact rfl; exact rfl; exact rfl; exact rfl; exact True.intro)
  | ((apply AOps.splitB; exact rfl; exact rfl) <;> intro h)
  | apply AllOf.nil
  | (apply AllOf.cons; exact rfl)
  | (apply AAny.take; exact rfl; exact rfl; kernel_rfl; kernel_rfl)
  | (apply AAny.all; exact rfl)
  | (apply AAny.done; exact rfl)
  | (apply inI_of <;> omega)
  | omega
  | (simp <;> omega))
    all_goals (first | (apply Or.inl; refine ⟨lee rfl ?_, ?_, rfl, rfl⟩; (focus ((repeat (first | exact le_nil | refine le_eq rfl rfl ?_ | (refine le_eq rfl (congrArg AV.i ?_) ?_; (focus (omega; done))))); done)); (focus ((repeat (first | exact lo_nil | refine lo_dead ?_ | refine lo_eq rfl ?_)); done))))
  repeat' (first
  | (apply AOps.nil; try simp only [List.nil_append, List.cons_append, List.set_cons_zero, List.set_cons_succ, List.length_cons, List.length_nil, Nat.reduceAdd, AV.sh, AV.sh1, AV.sh0, AO.sh, List.map_cons, List.map_nil, Nat.zero_add, Nat.add_zero, setAll])
  | ((apply AOps.splitP; exact rfl; exact rfl) <;> intro h)
  | ((apply AOps.splitN; exact rfl; exact rfl) <;> intro h)
  | (apply w_move; exact rfl; exact rfl)
  | (apply w_assign; exact rfl; exact rfl)
  | apply AWp.seq
  | apply AWp.region
  | ((apply AWp.condP; exact rfl) <;> intro h)
  | ((apply AWp.condN; exact rfl) <;> intro h)
  | (apply AWp.condT; exact rfl)
  | (apply AWp.condF; exact rfl)
  | ((apply AWp.condB; exact rfl) <;> intro h)
  | apply AWp.block
  | apply AWp.ret
  | apply AWp.exit
  | apply AWp.skip
  | (apply if_pos'; exact rfl)
  | (apply if_neg'; decide)
  | (apply w_skip; exact rfl)
  | (apply w_pickT; exact rfl; exact rfl; exact rfl)
  | (apply w_pickF; exact rfl; exact rfl; exact rfl)
  | (apply w_len; exact rfl; exact rfl; first | exact .ints _ | exact .intss _ | exact .sli rfl | exact .sls rfl | exact .slr rfl | exact .orow rfl | exact .nil)
  | omega
  | ((first | apply w_lss | apply w_leq | apply w_gtr | apply w_geq | apply w_eql | apply w_neq | apply w_add | apply w_sub | apply w_mul | apply w_idx | apply w_ld | apply w_fld | apply w_fa | apply w_extv | apply w_min | apply w_max | apply w_slhi | apply w_sllo | apply w_bs2); iterate 3 exact rfl)
  | ((first | apply w_eqlb | apply w_neqb | apply w_idxs | apply w_lds | apply w_ext); iterate 3 exact rfl)
  | (apply w_rem; exact rfl; exact rfl; exact rfl; (focus (omega; done)); (focus (omega; done)))
  | (apply w_quo; exact rfl; exact rfl; exact rfl; (focus (omega; done)); (focus (omega; done)))
  | (apply w_remT; exact rfl; exact rfl; exact rfl)
  | (apply w_quoT; exact rfl; exact rfl; exact rfl)
  | ((first | apply w_not | apply w_neg | apply w_conv | apply w_build0 | apply w_bs1 | apply w_boxa); iterate 2 exact rfl)
  | (apply w_idxo; exact rfl; exact rfl; (first | exact .sli rfl | exact .sls rfl | exact .slr rfl); exact rfl)
  | ((first | apply w_idxr | apply w_ldr); iterate 4 exact rfl)
  | (apply w_ldo; iterate 4 exact rfl)
  | (apply w_ldls; iterate 4 exact rfl)
  | (apply w_ldrp; iterate 4 exact rfl)
  | (apply w_ldb; iterate 5 exact rfl)
  | (apply w_ldst; iterate 5 exact rfl)
  | ((first | apply w_sllh | apply w_stbi); iterate 4 exact rfl)
  | ((first | apply w_oslo | apply w_oshi | apply w_stbii); iterate 4 exact rfl)
  | (apply w_build1; exact rfl; exact rfl; (first | exact one_val rfl rfl | exact one_ints | exact one_intss | exact one_own rfl True.intro))
  | (apply w_build2; exact rfl; exact rfl; exact rfl; (first | exact one_val rfl rfl | exact one_ints | exact one_intss | exact one_own rfl True.intro); (first | exact one_val rfl rfl | exact one_ints | exact one_intss | exact one_own rfl True.intro))
  | (apply w_bs0; iterate 1 exact rfl)
  | (apply w_appn; exact rfl; exact rfl; (first | exact .ints _ | exact .sli rfl | exact .orow rfl | exact .nil | exact .osub rfl (by simp; omega)); exact rfl)
  | (apply w_app; exact rfl; exact rfl; exact rfl; exact rfl; (first | exact .ints _ | exact .sli rfl | exact .orow rfl | exact .nil | exact .osub rfl (by simp; omega)); rotate_left 1; simp only [Env.mp, List.map_cons, List.map_nil, List.set_cons_zero, List.set_cons_succ, AV.kill, AV.kill1, AO.kill, AV.noRow, AV.noRow1, AO.via, reduceIte, Nat.reduceEqDiff, Nat.reduceLT, Env.up, Nat.zero_ne_one, Nat.one_ne_zero, Nat.reduceAdd, List.cons_append, List.nil_append]; rotate_left 1)
  | (apply w_alst; iterate 2 exact rfl)
  | (apply w_alone; iterate 3 exact rfl)
  | (apply w_mki; exact rfl; exact rfl; rotate_left 3; exact rfl; rotate_left 1)
  | (apply w_sti; exact rfl; exact rfl; rotate_left 1; exact rfl; rotate_left 2)
  | (apply w_stst; iterate 5 exact rfl)
  | (apply w_stbv; iterate 6 exact rfl)
  | (apply w_stbo; exact rfl; exact rfl; exact rfl; exact rfl; exact rfl; exact True.intro)
  | ((apply AOps.splitB; exact rfl; exact rfl) <;> intro h)
  | apply AllOf.nil
  | (apply AllOf.cons; exact rfl)
  | (apply AAny.take; exact rfl; exact rfl; kernel_rfl; kernel_rfl)
  | (apply AAny.all; exact rfl)
  | (apply AAny.done; exact rfl)
  | (apply inI_of <;> omega)
  | omega
  | (simp <;> omega))
  refine AWp.loop (ι := Nat) (fun j => ⟨129, [(3, .optr 1 0), (6, .i (cC n m)), (7, .own 2), (8, .own 3), (9, .own 4), (10, .i j)]⟩) (fun j => [.bx 27 [.i n, .ints a], .bx 27 [.i m, .ints b], .sli 2 (rtL m), .sli 2 (ctL n m a b j), .sli 2 sa]) (fun j => j ≤ m ∧ ∀ i : Nat, i < j → ctD n m a b i ≠ S) (fun j => m - j) 0 ⟨by omega, fun i hi => by omega⟩ ⟨lee rfl (by (repeat (first | exact le_nil | refine le_eq rfl rfl ?_ | refine le_eq rfl (congrArg AV.i (by omega)) ?_))), by (repeat (first | exact lo_nil | refine lo_dead ?_ | refine lo_eq rfl ?_)), rfl, rfl⟩ ?_
  rintro j ⟨j0, j1⟩
  have l1 := ctL_len n m a b j
  by_cases hj : j < m
  · have zr := rt_in m (j : Nat)
    have zr' : 0 ≤ geti (rtL m) (((j : Int).toNat : Nat) : Int) ∧ geti (rtL m) (((j : Int).toNat : Nat) : Int) ≤ 55440 := zr
    have hcj := l16Conjugate_c m b h2 (geti (rtL m) (((j : Int).toNat : Nat) : Int)) zr'
    have eG : conjK b (geti (rtL m) (((j : Int).toNat : Nat) : Int)) b.length = ctG m b j := rfl
    rw [eG] at hcj
    have gF : inF (ctG m b j) := conjK_in h2 zr
    have hD : ctD n m a b j = dif fa (val (ctG m b j) (cB n m).toNat (ctG m b j).length) S := by rw [efa, eS]; unfold ctD; rfl
    have gl : (ctG m b j).length = b.length := conjK_len _ _ _
    obtain ⟨cj, ecj⟩ : ∃ l, l = ctG m b j := ⟨_, rfl⟩
    obtain ⟨d, ed0⟩ : ∃ x, x = ctD n m a b j := ⟨_, rfl⟩
    have cl := ctL_succ n m a b j
    rw [← ecj, ← ed0] at hD
    rw [← ed0] at cl
    rw [← ecj] at hcj gF gl
    clear ecj eG
    have hp2 := l16Spread_c cj gF (cB n m) (by omega) (by omega)
    have L2b := mulK (i := (cj.length : Int) - 1) (k := cB n m) (c := max (cA n m) (cB n m)) (by omega) (by omega) (by omega) (by omega)
    obtain ⟨Lb, eLb⟩ : ∃ x : Nat, x = (((cj.length : Int) - 1) * cB n m + 1).toNat := ⟨_, rfl⟩
    have bLb : Lb ≤ S := by omega
    obtain ⟨sb, esb⟩ : ∃ l, l = spL cj (cB n m).toNat Lb cj.length := ⟨_, rfl⟩
    obtain ⟨fb, efb⟩ : ∃ f, f = val cj (cB n m).toNat cj.length := ⟨_, rfl⟩
    rw [← eLb, ← esb] at hp2
    rw [← efb] at hD
    have lb : sb.length = Lb := by rw [esb]; exact spL_len _ _ _ _
    have gb : ∀ s : Nat, s < Lb → geti sb (((s : Int).toNat : Nat) : Int) = fb s := fun s h => by rw [esb, efb]; exact spL_get cj _ _ _ s h
    have zb : ∀ s : Nat, Lb ≤ s → fb s = 0 := fun s h => by rw [efb]; exact farL (by omega) (by omega) (by omega)
    clear esb eLb L2b efb
    repeat' (first
  | (apply AOps.nil; try simp only [List.nil_append, List.cons_append, List.set_cons_zero, List.set_cons_succ, List.length_cons, List.length_nil, Nat.reduceAdd, AV.sh, AV.sh1, AV.sh0, AO.sh, List.map_cons, List.map_nil, Nat.zero_add, Nat.add_zero, setAll])
  | ((apply AOps.splitP; exact rfl; exact rfl) <;> intro h)
  | ((apply AOps.splitN; exact rfl; exact rfl) <;> intro h)
  | (apply w_move; exact rfl; exact rfl)
  | (apply w_assign; exact rfl; exact rfl)
  | apply AWp.seq
  | apply AWp.region
  | ((apply AWp.condP; exact rfl) <;> intro h)
  | ((apply AWp.condN; exact rfl) <;> intro h)
  | (apply AWp.condT; exact rfl)
  | (apply AWp.condF; exact rfl)
  | ((apply AWp.condB; exact rfl) <;> intro h)
  | apply AWp.block
  | apply AWp.ret
  | apply AWp.exit
  | apply AWp.skip
  | (apply if_pos'; exact rfl)
  | (apply if_neg'; decide)
  | (apply w_skip; exact rfl)
  | (apply w_pickT; exact rfl; exact rfl; exact rfl)
  | (apply w_pickF; exact rfl; exact rfl; exact rfl)
  | (apply w_len; exact rfl; exact rfl; first | exact .ints _ | exact .intss _ | exact .sli rfl | exact .sls rfl | exact .slr rfl | exact .orow rfl | exact .nil)
  | omega
  | ((first | apply w_lss | apply w_leq | apply w_gtr | apply w_geq | apply w_eql | apply w_neq | apply w_add | apply w_sub | apply w_mul | apply w_idx | apply w_ld | apply w_fld | apply w_fa | apply w_extv | apply w_min | apply w_max | apply w_slhi | apply w_sllo | apply w_bs2); iterate 3 exact rfl)
  | ((first | apply w_eqlb | apply w_neqb | apply w_idxs | apply w_lds | apply w_ext); iterate 3 exact rfl)
  | (apply w_rem; exact rfl; exact rfl; exact rfl; (focus (omega; done)); (focus (omega; done)))
  | (apply w_quo; exact rfl; exact rfl; exact rfl; (focus (omega; done)); (focus (omega; done)))
  | (apply w_remT; exact rfl; exact rfl; exact rfl)
  | (apply w_quoT; exact rfl; exact rfl; exact rfl)
  | ((first | apply w_not | apply w_neg | apply w_conv | apply w_build0 | apply w_bs1 | apply w_boxa); iterate 2 exact rfl)
  | (apply w_idxo; exact rfl; exact rfl; (first | exact .sli rfl | exact .sls rfl | exact .slr rfl); exact rfl)
  | ((first | apply w_idxr | apply w_ldr); iterate 4 exact rfl)
  | (apply w_ldo; iterate 4 exact rfl)
  | (apply w_ldls; iterate 4 exact rfl)
  | (apply w_ldrp; iterate 4 exact rfl)
  | (apply w_ldb; iterate 5 exact rfl)
  | (apply w_ldst; iterate 5 exact rfl)
  | ((first | apply w_sllh | apply w_stbi); iterate 4 exact rfl)
  | ((first | apply w_oslo | apply w_oshi | apply w_stbii); iterate 4 exact rfl)
  | (apply w_build1; exact rfl; exact rfl; (first | exact one_val rfl rfl | exact one_ints | exact one_intss | exact one_own rfl True.intro))
  | (apply w_build2; exact rfl; exact rfl; exact rfl; (first | exact one_val rfl rfl | exact one_ints | exact one_intss | exact one_own rfl True.intro); (first | exact one_val rfl rfl | exact one_ints | exact one_intss | exact one_own rfl True.intro))
  | (apply w_bs0; iterate 1 exact rfl)
  | (apply w_appn; exact rfl; exact rfl; (first | exact .ints _ | exact .sli rfl | exact .orow rfl | exact .nil | exact .osub rfl (by simp; omega)); exact rfl)
  | (apply w_app; exact rfl; exact rfl; exact rfl; exact rfl; (first | exact .ints _ | exact .sli rfl | exact .orow rfl | exact .nil | exact .osub rfl (by simp; omega)); rotate_left 1; simp only [Env.mp, List.map_cons, List.map_nil, List.set_cons_zero, List.set_cons_succ, AV.kill, AV.kill1, AO.kill, AV.noRow, AV.noRow1, AO.via, reduceIte, Nat.reduceEqDiff, Nat.reduceLT, Env.up, Nat.zero_ne_one, Nat.one_ne_zero, Nat.reduceAdd, List.cons_append, List.nil_append]; rotate_left 1)
  | (apply w_alst; iterate 2 exact rfl)
  | (apply w_alone; iterate 3 exact rfl)
  | (apply w_mki; exact rfl; exact rfl; rotate_left 3; exact rfl; rotate_left 1)
  | (apply w_sti; exact rfl; exact rfl; rotate_left 1; exact rfl; rotate_left 2)
  | (apply w_stst; iterate 5 exact rfl)
  | (apply w_stbv; iterate 6 exact rfl)
  | (apply w_stbo; exact rfl; exact rfl; exact rfl; exact rfl; exact rfl; exact True.intro)
  | ((apply AOps.splitB; exact rfl; exact rfl) <;> intro h)
  | apply AllOf.nil
  | (apply AllOf.cons; exact rfl)
  | (apply AAny.take; exact rfl; exact rfl; kernel_rfl; kernel_rfl)
  | (apply AAny.all; exact rfl)
  | (apply AAny.done; exact rfl)
  | (apply inI_of <;> omega)
  | omega
  | (simp <;> omega))
    refine AWp.regionA (by kernel_rfl) (envC := ⟨129, [(3, .optr 1 0), (6, .i (cC n m)), (7, .own 2), (8, .own 3), (9, .own 4), (10, .i j), (11, .own 6)]⟩) (osC := [.bx 27 [.i n, .ints a], .bx 27 [.i m, .ints b], .sli 2 (rtL m), .sli 2 (ctL n m a b j), .sli 2 sa, .sli 2 cj, .sli 2 sb]) rfl rfl ?_ ?_
    · repeat' (first
  | (apply AOps.nil; try simp only [List.nil_append, List.cons_append, List.set_cons_zero, List.set_cons_succ, List.length_cons, List.length_nil, Nat.reduceAdd, AV.sh, AV.sh1, AV.sh0, AO.sh, List.map_cons, List.map_nil, Nat.zero_add, Nat.add_zero, setAll])
  | ((apply AOps.splitP; exact rfl; exact rfl) <;> intro h)
  | ((apply AOps.splitN; exact rfl; exact rfl) <;> intro h)
  | (apply w_move; exact rfl; exact rfl)
  | (apply w_assign; exact rfl; exact rfl)
  | apply AWp.seq
  | apply AWp.region
  | ((apply AWp.condP; exact rfl) <;> intro h)
  | ((apply AWp.condN; exact rfl) <;> intro h)
  | (apply AWp.condT; exact rfl)
  | (apply AWp.condF; exact rfl)
  | ((apply AWp.condB; exact rfl) <;> intro h)
  | apply AWp.block
  | apply AWp.ret
  | apply AWp.exit
  | apply AWp.skip
  | (apply AWp.regionQ; kernel_rfl; kernel_rfl)
  | (apply if_pos'; exact rfl)
  | (apply if_neg'; decide)
  | (apply w_skip; exact rfl)
  | (apply w_pickT; exact rfl; exact rfl; exact rfl)
  | (apply w_pickF; exact rfl; exact rfl; exact rfl)
  | (apply w_len; exact rfl; exact rfl; first | exact .ints _ | exact .intss _ | exact .sli rfl | exact .sls rfl | exact .slr rfl | exact .orow rfl | exact .nil)
  | (apply w_callm (hcj); (focus ((repeat (first | exact im_nil | refine im_cons rfl (.val _) ?_ | refine im_cons rfl (.ints _) ?_ | refine im_cons rfl (.intss _) ?_ | refine im_cons rfl (.sli rfl) ?_ | refine im_cons rfl (.sls rfl) ?_ | refine im_cons rfl (.slr rfl) ?_ | refine im_cons rfl (.orow rfl) ?_ | refine im_cons rfl (.osub rfl (by simp; omega)) ?_ | refine im_cons rfl (.nil) ?_ | refine im_cons rfl (.nils) ?_ | refine im_cons rfl (im_agg2 (.val _) (.ints _)) ?_ | refine im_cons rfl (im_agg2 (.val _) (.sli rfl)) ?_ | refine im_cons rfl (im_agg2 (.val _) (.nil)) ?_ | refine im_cons rfl (im_agg2 (.ints _) (.intss _)) ?_ | refine im_cons rfl (im_agg2 (.ints _) (.sls rfl)) ?_ | refine im_cons rfl (im_agg2 (.sli rfl) (.intss _)) ?_ | refine im_cons rfl (im_agg2 (.sli rfl) (.sls rfl)) ?_ | refine im_cons rfl (im_agg1 (.ints _)) ?_ | refine im_cons rfl (im_agg1 (.sli rfl)) ?_ | refine im_cons rfl (im_agg1 (.intss _)) ?_ | refine im_cons rfl (im_agg1 (.sls rfl)) ?_ | refine im_cons rfl (im_agg1 (.slr rfl)) ?_ | refine im_cons rfl (im_agg1 (.nil)) ?_ | refine im_cons rfl (im_agg1 (.nils)) ?_)); done)); rintro r os0 ⟨rfl, rfl⟩; try simp only [List.nil_append, List.cons_append, List.set_cons_zero, List.set_cons_succ, List.length_cons, List.length_nil, Nat.reduceAdd, AV.sh, AV.sh1, AV.sh0, AO.sh, List.map_cons, List.map_nil, Nat.zero_add, Nat.add_zero, setAll])
  | (apply w_callm (hp2); (focus ((repeat (first | exact im_nil | refine im_cons rfl (.val _) ?_ | refine im_cons rfl (.ints _) ?_ | refine im_cons rfl (.intss _) ?_ | refine im_cons rfl (.sli rfl) ?_ | refine im_cons rfl (.sls rfl) ?_ | refine im_cons rfl (.slr rfl) ?_ | refine im_cons rfl (.orow rfl) ?_ | refine im_cons rfl (.osub rfl (by simp; omega)) ?_ | refine im_cons rfl (.nil) ?_ | refine im_cons rfl (.nils) ?_ | refine im_cons rfl (im_agg2 (.val _) (.ints _)) ?_ | refine im_cons rfl (im_agg2 (.val _) (.sli rfl)) ?_ | refine im_cons rfl (im_agg2 (.val _) (.nil)) ?_ | refine im_cons rfl (im_agg2 (.ints _) (.intss _)) ?_ | refine im_cons rfl (im_agg2 (.ints _) (.sls rfl)) ?_ | refine im_cons rfl (im_agg2 (.sli rfl) (.intss _)) ?_ | refine im_cons rfl (im_agg2 (.sli rfl) (.sls rfl)) ?_ | refine im_cons rfl (im_agg1 (.ints _)) ?_ | refine im_cons rfl (im_agg1 (.sli rfl)) ?_ | refine im_cons rfl (im_agg1 (.intss _)) ?_ | refine im_cons rfl (im_agg1 (.sls rfl)) ?_ | refine im_cons rfl (im_agg1 (.slr rfl)) ?_ | refine im_cons rfl (im_agg1 (.nil)) ?_ | refine im_cons rfl (im_agg1 (.nils)) ?_)); done)); rintro r os0 ⟨rfl, rfl⟩; try simp only [List.nil_append, List.cons_append, List.set_cons_zero, List.set_cons_succ, List.length_cons, List.length_nil, Nat.reduceAdd, AV.sh, AV.sh1, AV.sh0, AO.sh, List.map_cons, List.map_nil, Nat.zero_add, Nat.add_zero, setAll])
  | omega
  | ((first | apply w_lss | apply w_leq | apply w_gtr | apply w_geq | apply w_eql | apply w_neq | apply w_add | apply w_sub | apply w_mul | apply w_idx | apply w_ld | apply w_fld | apply w_fa | apply w_extv | apply w_min | apply w_max | apply w_slhi | apply w_sllo | apply w_bs2); iterate 3 exact rfl)
  | ((first | apply w_eqlb | apply w_neqb | apply w_idxs | apply w_lds | apply w_ext); iterate 3 exact rfl)
  | (apply w_rem; exact rfl; exact rfl; exact rfl; (focus (omega; done)); (focus (omega; done)))
  | (apply w_quo; exact rfl; exact rfl; exact rfl; (focus (omega; done)); (focus (omega; done)))
  | (apply w_remT; exact rfl; exact rfl; exact rfl)
  | (apply w_quoT; exact rfl; exact rfl; exact rfl)
  | ((first | apply w_not | apply w_neg | apply w_conv | apply w_build0 | apply w_bs1 | apply w_boxa); iterate 2 exact rfl)
  | (apply w_idxo; exact rfl; exact rfl; (first | exact .sli rfl | exact .sls rfl | exact .slr rfl); exact rfl)
  | ((first | apply w_idxr | apply w_ldr); iterate 4 exact rfl)
  | (apply w_ldo; iterate 4 exact rfl)
  | (apply w_ldls; iterate 4 exact rfl)
  | (apply w_ldrp; iterate 4 exact rfl)
  | (apply w_ldb; iterate 5 exact rfl)
  | (apply w_ldst; iterate 5 exact rfl)
  | ((first | apply w_sllh | apply w_stbi); iterate 4 exact rfl)
  | ((first | apply w_oslo | apply w_oshi | apply w_stbii); iterate 4 exact rfl)
  | (apply w_build1; exact rfl; exact rfl; (first | exact one_val rfl rfl | exact one_ints | exact one_intss | exact one_own rfl True.intro))
  | (apply w_build2; exact rfl; exact rfl; exact rfl; (first | exact one_val rfl rfl | exact one_ints | exact one_intss | exact one_own rfl True.intro); (first | exact one_val rfl rfl | exact one_ints | exact one_intss | exact one_own rfl True.intro))
  | (apply w_bs0; iterate 1 exact rfl)
  | (apply w_appn; exact rfl; exact rfl; (first | exact .ints _ | exact .sli rfl | exact .orow rfl | exact .nil | exact .osub rfl (by simp; omega)); exact rfl)
  | (apply w_app; exact rfl; exact rfl; exact rfl; exact rfl; (first | exact .ints _ | exact .sli rfl | exact .orow rfl | exact .nil | exact .osub rfl (by simp; omega)); rotate_left 1; simp only [Env.mp, List.map_cons, List.map_nil, List.set_cons_zero, List.set_cons_succ, AV.kill, AV.kill1, AO.kill, AV.noRow, AV.noRow1, AO.via, reduceIte, Nat.reduceEqDiff, Nat.reduceLT, Env.up, Nat.zero_ne_one, Nat.one_ne_zero, Nat.reduceAdd, List.cons_append, List.nil_append]; rotate_left 1)
  | (apply w_alst; iterate 2 exact rfl)
  | (apply w_alone; iterate 3 exact rfl)
  | (apply w_mki; exact rfl; exact rfl; rotate_left 3; exact rfl; rotate_left 1)
  | (apply w_sti; exact rfl; exact rfl; rotate_left 1; exact rfl; rotate_left 2)
  | (apply w_stst; iterate 5 exact rfl)
  | (apply w_stbv; iterate 6 exact rfl)
  | (apply w_stbo; exact rfl; exact rfl; exact rfl; exact rfl; exact rfl; exact True.intro)
  | ((apply AOps.splitB; exact rfl; exact rfl) <;> intro h)
  | apply AllOf.nil
  | (apply AllOf.cons; exact rfl)
  | (apply AAny.take; exact rfl; exact rfl; kernel_rfl; kernel_rfl)
  | (apply AAny.all; exact rfl)
  | (apply AAny.done; exact rfl)
  | (apply inI_of <;> omega)
  | omega
  | (simp <;> omega))
      all_goals (first | (apply Or.inl; refine ⟨lee rfl ?_, ?_, rfl, rfl⟩; (focus ((repeat (first | exact le_nil | refine le_eq rfl rfl ?_ | (refine le_eq rfl (congrArg AV.i ?_) ?_; (focus (omega; done))))); done)); (focus ((repeat (first | exact lo_nil | refine lo_dead ?_ | refine lo_eq rfl ?_)); done))))
    have hm12 : m ≤ 12 := by omega
    clear hcj hp2 hp1 hr gF gl zr zr' o1 o2 o4 o5 o6 m1 m2 hS s1 s2 s3 s4 s5 t2 t3 t4 t5 oC o3 h1 h2 efa
    repeat' (first
  | (apply AOps.nil; try simp only [List.nil_append, List.cons_append, List.set_cons_zero, List.set_cons_succ, List.length_cons, List.length_nil, Nat.reduceAdd, AV.sh, AV.sh1, AV.sh0, AO.sh, List.map_cons, List.map_nil, Nat.zero_add, Nat.add_zero, setAll])
  | ((apply AOps.splitP; exact rfl; exact rfl) <;> intro h)
  | ((apply AOps.splitN; exact rfl; exact rfl) <;> intro h)
  | (apply w_move; exact rfl; exact rfl)
  | (apply w_assign; exact rfl; exact rfl)
  | apply AWp.seq
  | apply AWp.region
  | ((apply AWp.condP; exact rfl) <;> intro h)
  | ((apply AWp.condN; exact rfl) <;> intro h)
  | (apply AWp.condT; exact rfl)
  | (apply AWp.condF; exact rfl)
  | ((apply AWp.condB; exact rfl) <;> intro h)
  | apply AWp.block
  | apply AWp.ret
  | apply AWp.exit
  | apply AWp.skip
  | (apply if_pos'; exact rfl)
  | (apply if_neg'; decide)
  | (apply w_skip; exact rfl)
  | (apply w_pickT; exact rfl; exact rfl; exact rfl)
  | (apply w_pickF; exact rfl; exact rfl; exact rfl)
  | (apply w_len; exact rfl; exact rfl; first | exact .ints _ | exact .intss _ | exact .sli rfl | exact .sls rfl | exact .slr rfl | exact .orow rfl | exact .nil)
  | omega
  | ((first | apply w_lss | apply w_leq | apply w_gtr | apply w_geq | apply w_eql | apply w_neq | apply w_add | apply w_sub | apply w_mul | apply w_idx | apply w_ld | apply w_fld | apply w_fa | apply w_extv | apply w_min | apply w_max | apply w_slhi | apply w_sllo | apply w_bs2); iterate 3 exact rfl)
  | ((first | apply w_eqlb | apply w_neqb | apply w_idxs | apply w_lds | apply w_ext); iterate 3 exact rfl)
  | (apply w_rem; exact rfl; exact rfl; exact rfl; (focus (omega; done)); (focus (omega; done)))
  | (apply w_quo; exact rfl; exact rfl; exact rfl; (focus (omega; done)); (focus (omega; done)))
  | (apply w_remT; exact rfl; exact rfl; exact rfl)
  | (apply w_quoT; exact rfl; exact rfl; exact rfl)
  | ((first | apply w_not | apply w_neg | apply w_conv | apply w_build0 | apply w_bs1 | apply w_boxa); iterate 2 exact rfl)
  | (apply w_idxo; exact rfl; exact rfl; (first | exact .sli rfl | exact .sls rfl | exact .slr rfl); exact rfl)
  | ((first | apply w_idxr | apply w_ldr); iterate 4 exact rfl)
  | (apply w_ldo; iterate 4 exact rfl)
  | (apply w_ldls; iterate 4 exact rfl)
  | (apply w_ldrp; iterate 4 exact rfl)
  | (apply w_ldb; iterate 5 exact rfl)
  | (apply w_ldst; iterate 5 exact rfl)
  | ((first | apply w_sllh | apply w_stbi); iterate 4 exact rfl)
  | ((first | apply w_oslo | apply w_oshi | apply w_stbii); iterate 4 exact rfl)
  | (apply w_build1; exact rfl; exact rfl; (first | exact one_val rfl rfl | exact one_ints | exact one_intss | exact one_own rfl True.intro))
  | (apply w_build2; exact rfl; exact rfl; exact rfl; (first | exact one_val rfl rfl | exact one_ints | exact one_intss | exact one_own rfl True.intro); (first | exact one_val rfl rfl | exact one_ints | exact one_intss | exact one_own rfl True.intro))
  | (apply w_bs0; iterate 1 exact rfl)
  | (apply w_appn; exact rfl; exact rfl; (first | exact .ints _ | exact .sli rfl | exact .orow rfl | exact .nil | exact .osub rfl (by simp; omega)); exact rfl)
  | (apply w_app; exact rfl; exact rfl; exact rfl; exact rfl; (first | exact .ints _ | exact .sli rfl | exact .orow rfl | exact .nil | exact .osub rfl (by simp; omega)); rotate_left 1; simp only [Env.mp, List.map_cons, List.map_nil, List.set_cons_zero, List.set_cons_succ, AV.kill, AV.kill1, AO.kill, AV.noRow, AV.noRow1, AO.via, reduceIte, Nat.reduceEqDiff, Nat.reduceLT, Env.up, Nat.zero_ne_one, Nat.one_ne_zero, Nat.reduceAdd, List.cons_append, List.nil_append]; rotate_left 1)
  | (apply w_alst; iterate 2 exact rfl)
  | (apply w_alone; iterate 3 exact rfl)
  | (apply w_mki; exact rfl; exact rfl; rotate_left 3; exact rfl; rotate_left 1)
  | (apply w_sti; exact rfl; exact rfl; rotate_left 1; exact rfl; rotate_left 2)
  | (apply w_stst; iterate 5 exact rfl)
  | (apply w_stbv; iterate 6 exact rfl)
  | (apply w_stbo; exact rfl; exact rfl; exact rfl; exact rfl; exact rfl; exact True.intro)
  | ((apply AOps.splitB; exact rfl; exact rfl) <;> intro h)
  | apply AllOf.nil
  | (apply AllOf.cons; exact rfl)
  | (apply AAny.take; exact rfl; exact rfl; kernel_rfl; kernel_rfl)
  | (apply AAny.all; exact rfl)
  | (apply AAny.done; exact rfl)
  | (apply inI_of <;> omega)
  | omega
  | (simp <;> omega))
    refine AWp.loopJ (ι := Nat) (κ := Nat) 2 (fun s => ⟨129, [(3, .optr 1 0), (6, .i (cC n m)), (7, .own 2), (8, .own 3), (9, .own 4), (10, .i j), (11, .own 6), (12, .i s)]⟩) (fun _ => [.bx 27 [.i n, .ints a], .bx 27 [.i m, .ints b], .sli 2 (rtL m), .sli 2 (ctL n m a b j), .sli 2 sa, .sli 2 cj, .sli 2 sb]) (fun s => s ≤ La ∧ s ≤ Lb ∧ (∀ t, t < s → fa t = fb t)) (fun s => La - s) 0
      (fun s => ⟨129, [(3, .optr 1 0), (6, .i (cC n m)), (7, .own 2), (8, .own 3), (9, .own 4), (10, .i j), (11, .own 6), (12, .i s)]⟩) (fun _ => [.bx 27 [.i n, .ints a], .bx 27 [.i m, .ints b], .sli 2 (rtL m), .sli 2 (ctL n m a b j), .sli 2 sa, .sli 2 cj, .sli 2 sb]) (fun s => (s ≤ La ∨ s ≤ Lb) ∧ (∀ t, t < s → fa t = fb t) ∧ (s < La → s < Lb → fa s ≠ fb s)) ⟨by omega, by omega, fun t ht => by omega⟩ ⟨lee rfl (by (repeat (first | exact le_nil | refine le_eq rfl rfl ?_ | refine le_eq rfl (congrArg AV.i (by omega)) ?_))), by (repeat (first | exact lo_nil | refine lo_dead ?_ | refine lo_eq rfl ?_)), rfl, rfl⟩ ?_ ?_
    rotate_left 1
    · rintro s ⟨q0, q1, q2⟩
      by_cases c1 : s < La ∧ s < Lb
      · have ga' := ga s c1.1
        have gb' := gb s c1.2
        by_cases he : fa s = fb s
        · repeat' (first
  | (apply AOps.nil; try simp only [List.nil_append, List.cons_append, List.set_cons_zero, List.set_cons_succ, List.length_cons, List.length_nil, Nat.reduceAdd, AV.sh, AV.sh1, AV.sh0, AO.sh, List.map_cons, List.map_nil, Nat.zero_add, Nat.add_zero, setAll])
  | ((apply AOps.splitP; exact rfl; exact rfl) <;> intro h)
  | ((apply AOps.splitN; exact rfl; exact rfl) <;> intro h)
  | (apply w_move; exact rfl; exact rfl)
  | (apply w_assign; exact rfl; exact rfl)
  | apply AWp.seq
  | apply AWp.region
  | ((apply AWp.condP; exact rfl) <;> intro h)
  | ((apply AWp.condN; exact rfl) <;> intro h)
  | (apply AWp.condT; exact rfl)
  | (apply AWp.condF; exact rfl)
  | ((apply AWp.condB; exact rfl) <;> intro h)
  | apply AWp.block
  | apply AWp.ret
  | apply AWp.exit
  | apply AWp.skip
  | (apply AWp.regionQ; kernel_rfl; kernel_rfl)
  | (apply if_pos'; exact rfl)
  | (apply if_neg'; decide)
  | (apply w_skip; exact rfl)
  | (apply w_pickT; exact rfl; exact rfl; exact rfl)
  | (apply w_pickF; exact rfl; exact rfl; exact rfl)
  | (apply w_len; exact rfl; exact rfl; first | exact .ints _ | exact .intss _ | exact .sli rfl | exact .sls rfl | exact .slr rfl | exact .orow rfl | exact .nil)
  | ((first | apply w_lss | apply w_leq | apply w_gtr | apply w_geq | apply w_eql | apply w_neq | apply w_add | apply w_sub | apply w_mul | apply w_idx | apply w_ld | apply w_fld | apply w_fa | apply w_extv | apply w_min | apply w_max | apply w_slhi | apply w_sllo | apply w_bs2); iterate 3 exact rfl)
  | ((first | apply w_eqlb | apply w_neqb | apply w_idxs | apply w_lds | apply w_ext); iterate 3 exact rfl)
  | (apply w_rem; exact rfl; exact rfl; exact rfl; (focus (omega; done)); (focus (omega; done)))
  | (apply w_quo; exact rfl; exact rfl; exact rfl; (focus (omega; done)); (focus (omega; done)))
  | (apply w_remT; exact rfl; exact rfl; exact rfl)
  | (apply w_quoT; exact rfl; exact rfl; exact rfl)
  | ((first | apply w_not | apply w_neg | apply w_conv | apply w_build0 | apply w_bs1 | apply w_boxa); iterate 2 exact rfl)
  | (apply w_idxo; exact rfl; exact rfl; (first | exact .sli rfl | exact .sls rfl | exact .slr rfl); exact rfl)
  | ((first | apply w_idxr | apply w_ldr); iterate 4 exact rfl)
  | (apply w_ldo; iterate 4 exact rfl)
  | (apply w_ldls; iterate 4 exact rfl)
  | (apply w_ldrp; iterate 4 exact rfl)
  | (apply w_ldb; iterate 5 exact rfl)
  | (apply w_ldst; iterate 5 exact rfl)
  | ((first | apply w_sllh | apply w_stbi); iterate 4 exact rfl)
  | ((first | apply w_oslo | apply w_oshi | apply w_stbii); iterate 4 exact rfl)
  | (apply w_build1; exact rfl; exact rfl; (first | exact one_val rfl rfl | exact one_ints | exact one_intss | exact one_own rfl True.intro))
  | (apply w_build2; exact rfl; exact rfl; exact rfl; (first | exact one_val rfl rfl | exact one_ints | exact one_intss | exact one_own rfl True.intro); (first | exact one_val rfl rfl | exact one_ints | exact one_intss | exact one_own rfl True.intro))
  | (apply w_bs0; iterate 1 exact rfl)
  | (apply w_appn; exact rfl; exact rfl; (first | exact .ints _ | exact .sli rfl | exact .orow rfl | exact .nil | exact .osub rfl (by simp; omega)); exact rfl)
  | (apply w_app; exact rfl; exact rfl; exact rfl; exact rfl; (first | exact .ints _ | exact .sli rfl | exact .orow rfl | exact .nil | exact .osub rfl (by simp; omega)); rotate_left 1; simp only [Env.mp, List.map_cons, List.map_nil, List.set_cons_zero, List.set_cons_succ, AV.kill, AV.kill1, AO.kill, AV.noRow, AV.noRow1, AO.via, reduceIte, Nat.reduceEqDiff, Nat.reduceLT, Env.up, Nat.zero_ne_one, Nat.one_ne_zero, Nat.reduceAdd, List.cons_append, List.nil_append]; rotate_left 1)
  | (apply w_alst; iterate 2 exact rfl)
  | (apply w_alone; iterate 3 exact rfl)
  | (apply w_mki; exact rfl; exact rfl; rotate_left 3; exact rfl; rotate_left 1)
  | (apply w_sti; exact rfl; exact rfl; rotate_left 1; exact rfl; rotate_left 2)
  | (apply w_stst; iterate 5 exact rfl)
  | (apply w_stbv; iterate 6 exact rfl)
  | (apply w_stbo; exact rfl; exact rfl; exact rfl; exact rfl; exact rfl; exact True.intro)
  | ((apply AOps.splitB; exact rfl; exact rfl) <;> intro h)
  | apply AllOf.nil
  | (apply AllOf.cons; exact rfl)
  | (apply AAny.take; exact rfl; exact rfl; kernel_rfl; kernel_rfl)
  | (apply AAny.all; exact rfl)
  | (apply AAny.done; exact rfl)
  | (apply inI_of <;> omega)
  | omega
  | (simp <;> omega))
          all_goals first
            | (exfalso; omega)
            | (
                refine ⟨s + 1, ⟨by omega, by omega, fun t ht => ?_⟩, by omega, ⟨lee rfl (by (repeat (first | exact le_nil | refine le_eq rfl rfl ?_ | refine le_eq rfl (congrArg AV.i (by omega)) ?_))), by (repeat (first | exact lo_nil | refine lo_dead ?_ | refine lo_eq rfl ?_)), rfl, rfl⟩⟩
                by_cases e : t = s
                · subst e; exact he
                · exact q2 t (by omega))
        · repeat' (first
  | (apply AOps.nil; try simp only [List.nil_append, List.cons_append, List.set_cons_zero, List.set_cons_succ, List.length_cons, List.length_nil, Nat.reduceAdd, AV.sh, AV.sh1, AV.sh0, AO.sh, List.map_cons, List.map_nil, Nat.zero_add, Nat.add_zero, setAll])
  | ((apply AOps.splitP; exact rfl; exact rfl) <;> intro h)
  | ((apply AOps.splitN; exact rfl; exact rfl) <;> intro h)
  | (apply w_move; exact rfl; exact rfl)
  | (apply w_assign; exact rfl; exact rfl)
  | apply AWp.seq
  | apply AWp.region
  | ((apply AWp.condP; exact rfl) <;> intro h)
  | ((apply AWp.condN; exact rfl) <;> intro h)
  | (apply AWp.condT; exact rfl)
  | (apply AWp.condF; exact rfl)
  | ((apply AWp.condB; exact rfl) <;> intro h)
  | apply AWp.block
  | apply AWp.ret
  | apply AWp.exit
  | apply AWp.skip
  | (apply AWp.regionQ; kernel_rfl; kernel_rfl)
  | (apply if_pos'; exact rfl)
  | (apply if_neg'; decide)
  | (apply w_skip; exact rfl)
  | (apply w_pickT; exact rfl; exact rfl; exact rfl)
  | (apply w_pickF; exact rfl; exact rfl; exact rfl)
  | (apply w_len; exact rfl; exact rfl; first | exact .ints _ | exact .intss _ | exact .sli rfl | exact .sls rfl | exact .slr rfl | exact .orow rfl | exact .nil)
  | ((first | apply w_lss | apply w_leq | apply w_gtr | apply w_geq | apply w_eql | apply w_neq | apply w_add | apply w_sub | apply w_mul | apply w_idx | apply w_ld | apply w_fld | apply w_fa | apply w_extv | apply w_min | apply w_max | apply w_slhi | apply w_sllo | apply w_bs2); iterate 3 exact rfl)
  | ((first | apply w_eqlb | apply w_neqb | apply w_idxs | apply w_lds | apply w_ext); iterate 3 exact rfl)
  | (apply w_rem; exact rfl; exact rfl; exact rfl; (focus (omega; done)); (focus (omega; done)))
  | (apply w_quo; exact rfl; exact rfl; exact rfl; (focus (omega; done)); (focus (omega; done)))
  | (apply w_remT; exact rfl; exact rfl; exact rfl)
  | (apply w_quoT; exact rfl; exact rfl; exact rfl)
  | ((first | apply w_not | apply w_neg | apply w_conv | apply w_build0 | apply w_bs1 | apply w_boxa); iterate 2 exact rfl)
  | (apply w_idxo; exact rfl; exact rfl; (first | exact .sli rfl | exact .sls rfl | exact .slr rfl); exact rfl)
  | ((first | apply w_idxr | apply w_ldr); iterate 4 exact rfl)
  | (apply w_ldo; iterate 4 exact rfl)
  | (apply w_ldls; iterate 4 exact rfl)
  | (apply w_ldrp; iterate 4 exact rfl)
  | (apply w_ldb; iterate 5 exact rfl)
  | (apply w_ldst; iterate 5 exact rfl)
  | ((first | apply w_sllh | apply w_stbi); iterate 4 exact rfl)
  | ((first | apply w_oslo | apply w_oshi | apply w_stbii); iterate 4 exact rfl)
  | (apply w_build1; exact rfl; exact rfl; (first | exact one_val rfl rfl | exact one_ints | exact one_intss | exact one_own rfl True.intro))
  | (apply w_build2; exact rfl; exact rfl; exact rfl; (first | exact one_val rfl rfl | exact one_ints | exact one_intss | exact one_own rfl True.intro); (first | exact one_val rfl rfl | exact one_ints | exact one_intss | exact one_own rfl True.intro))
  | (apply w_bs0; iterate 1 exact rfl)
  | (apply w_appn; exact rfl; exact rfl; (first | exact .ints _ | exact .sli rfl | exact .orow rfl | exact .nil | exact .osub rfl (by simp; omega)); exact rfl)
  | (apply w_app; exact rfl; exact rfl; exact rfl; exact rfl; (first | exact .ints _ | exact .sli rfl | exact .orow rfl | exact .nil | exact .osub rfl (by simp; omega)); rotate_left 1; simp only [Env.mp, List.map_cons, List.map_nil, List.set_cons_zero, List.set_cons_succ, AV.kill, AV.kill1, AO.kill, AV.noRow, AV.noRow1, AO.via, reduceIte, Nat.reduceEqDiff, Nat.reduceLT, Env.up, Nat.zero_ne_one, Nat.one_ne_zero, Nat.reduceAdd, List.cons_append, List.nil_append]; rotate_left 1)
  | (apply w_alst; iterate 2 exact rfl)
  | (apply w_alone; iterate 3 exact rfl)
  | (apply w_mki; exact rfl; exact rfl; rotate_left 3; exact rfl; rotate_left 1)
  | (apply w_sti; exact rfl; exact rfl; rotate_left 1; exact rfl; rotate_left 2)
  | (apply w_stst; iterate 5 exact rfl)
  | (apply w_stbv; iterate 6 exact rfl)
  | (apply w_stbo; exact rfl; exact rfl; exact rfl; exact rfl; exact rfl; exact True.intro)
  | ((apply AOps.splitB; exact rfl; exact rfl) <;> intro h)
  | apply AllOf.nil
  | (apply AllOf.cons; exact rfl)
  | (apply AAny.take; exact rfl; exact rfl; kernel_rfl; kernel_rfl)
  | (apply AAny.all; exact rfl)
  | (apply AAny.done; exact rfl)
  | (apply inI_of <;> omega)
  | omega
  | (simp <;> omega))
          all_goals first
            | (exfalso; omega)
            | exact ⟨s, ⟨by omega, q2, fun _ _ => he⟩, ⟨lee rfl (by (repeat (first | exact le_nil | refine le_eq rfl rfl ?_ | refine le_eq rfl (congrArg AV.i (by omega)) ?_))), by (repeat (first | exact lo_nil | refine lo_dead ?_ | refine lo_eq rfl ?_)), rfl, rfl⟩⟩
      · repeat' (first
  | (apply AOps.nil; try simp only [List.nil_append, List.cons_append, List.set_cons_zero, List.set_cons_succ, List.length_cons, List.length_nil, Nat.reduceAdd, AV.sh, AV.sh1, AV.sh0, AO.sh, List.map_cons, List.map_nil, Nat.zero_add, Nat.add_zero, setAll])
  | ((apply AOps.splitP; exact rfl; exact rfl) <;> intro h)
  | ((apply AOps.splitN; exact rfl; exact rfl) <;> intro h)
  | (apply w_move; exact rfl; exact rfl)
  | (apply w_assign; exact rfl; exact rfl)
  | apply AWp.seq
  | apply AWp.region
  | ((apply AWp.condP; exact rfl) <;> intro h)
  | ((apply AWp.condN; exact rfl) <;> intro h)
  | (apply AWp.condT; exact rfl)
  | (apply AWp.condF; exact rfl)
  | ((apply AWp.condB; exact rfl) <;> intro h)
  | apply AWp.block
  | apply AWp.ret
  | apply AWp.exit
  | apply AWp.skip
  | (apply AWp.regionQ; kernel_rfl; kernel_rfl)
  | (apply if_pos'; exact rfl)
  | (apply if_neg'; decide)
  | (apply w_skip; exact rfl)
  | (apply w_pickT; exact rfl; exact rfl; exact rfl)
  | (apply w_pickF; exact rfl; exact rfl; exact rfl)
  | (apply w_len; exact rfl; exact rfl; first | exact .ints _ | exact .intss _ | exact .sli rfl | exact .sls rfl | exact .slr rfl | exact .orow rfl | exact .nil)
  | ((first | apply w_lss | apply w_leq | apply w_gtr | apply w_geq | apply w_eql | apply w_neq | apply w_add | apply w_sub | apply w_mul | apply w_idx | apply w_ld | apply w_fld | apply w_fa | apply w_extv | apply w_min | apply w_max | apply w_slhi | apply w_sllo | apply w_bs2); iterate 3 exact rfl)
  | ((first | apply w_eqlb | apply w_neqb | apply w_idxs | apply w_lds | apply w_ext); iterate 3 exact rfl)
  | (apply w_rem; exact rfl; exact rfl; exact rfl; (focus (omega; done)); (focus (omega; done)))
  | (apply w_quo; exact rfl; exact rfl; exact rfl; (focus (omega; done)); (focus (omega; done)))
  | (apply w_remT; exact rfl; exact rfl; exact rfl)
  | (apply w_quoT; exact rfl; exact rfl; exact rfl)
  | ((first | apply w_not | apply w_neg | apply w_conv | apply w_build0 | apply w_bs1 | apply w_boxa); iterate 2 exact rfl)
  | (apply w_idxo; exact rfl; exact rfl; (first | exact .sli rfl | exact .sls rfl | exact .slr rfl); exact rfl)
  | ((first | apply w_idxr | apply w_ldr); iterate 4 exact rfl)
  | (apply w_ldo; iterate 4 exact rfl)
  | (apply w_ldls; iterate 4 exact rfl)
  | (apply w_ldrp; iterate 4 exact rfl)
  | (apply w_ldb; iterate 5 exact rfl)
  | (apply w_ldst; iterate 5 exact rfl)
  | ((first | apply w_sllh | apply w_stbi); iterate 4 exact rfl)
  | ((first | apply w_oslo | apply w_oshi | apply w_stbii); iterate 4 exact rfl)
  | (apply w_build1; exact rfl; exact rfl; (first | exact one_val rfl rfl | exact one_ints | exact one_intss | exact one_own rfl True.intro))
  | (apply w_build2; exact rfl; exact rfl; exact rfl; (first | exact one_val rfl rfl | exact one_ints | exact one_intss | exact one_own rfl True.intro); (first | exact one_val rfl rfl | exact one_ints | exact one_intss | exact one_own rfl True.intro))
  | (apply w_bs0; iterate 1 exact rfl)
  | (apply w_appn; exact rfl; exact rfl; (first | exact .ints _ | exact .sli rfl | exact .orow rfl | exact .nil | exact .osub rfl (by simp; omega)); exact rfl)
  | (apply w_app; exact rfl; exact rfl; exact rfl; exact rfl; (first | exact .ints _ | exact .sli rfl | exact .orow rfl | exact .nil | exact .osub rfl (by simp; omega)); rotate_left 1; simp only [Env.mp, List.map_cons, List.map_nil, List.set_cons_zero, List.set_cons_succ, AV.kill, AV.kill1, AO.kill, AV.noRow, AV.noRow1, AO.via, reduceIte, Nat.reduceEqDiff, Nat.reduceLT, Env.up, Nat.zero_ne_one, Nat.one_ne_zero, Nat.reduceAdd, List.cons_append, List.nil_append]; rotate_left 1)
  | (apply w_alst; iterate 2 exact rfl)
  | (apply w_alone; iterate 3 exact rfl)
  | (apply w_mki; exact rfl; exact rfl; rotate_left 3; exact rfl; rotate_left 1)
  | (apply w_sti; exact rfl; exact rfl; rotate_left 1; exact rfl; rotate_left 2)
  | (apply w_stst; iterate 5 exact rfl)
  | (apply w_stbv; iterate 6 exact rfl)
  | (apply w_stbo; exact rfl; exact rfl; exact rfl; exact rfl; exact rfl; exact True.intro)
  | ((apply AOps.splitB; exact rfl; exact rfl) <;> intro h)
  | apply AllOf.nil
  | (apply AllOf.cons; exact rfl)
  | (apply AAny.take; exact rfl; exact rfl; kernel_rfl; kernel_rfl)
  | (apply AAny.all; exact rfl)
  | (apply AAny.done; exact rfl)
  | (apply inI_of <;> omega)
  | omega
  | (simp <;> omega))
        all_goals first
          | (exfalso; omega)
          | exact ⟨s, ⟨by omega, q2, fun h5 h6 => absurd ⟨h5, h6⟩ c1⟩, ⟨lee rfl (by (repeat (first | exact le_nil | refine le_eq rfl rfl ?_ | refine le_eq rfl (congrArg AV.i (by omega)) ?_))), by (repeat (first | exact lo_nil | refine lo_dead ?_ | refine lo_eq rfl ?_)), rfl, rfl⟩⟩
    rintro s0 p0 e0 o0 hf0
    apply if_pos'; exact rfl
    refine AWp.fit hf0 ?_
    repeat' (first
  | (apply AOps.nil; try simp only [List.nil_append, List.cons_append, List.set_cons_zero, List.set_cons_succ, List.length_cons, List.length_nil, Nat.reduceAdd, AV.sh, AV.sh1, AV.sh0, AO.sh, List.map_cons, List.map_nil, Nat.zero_add, Nat.add_zero, setAll])
  | ((apply AOps.splitP; exact rfl; exact rfl) <;> intro h)
  | ((apply AOps.splitN; exact rfl; exact rfl) <;> intro h)
  | (apply w_move; exact rfl; exact rfl)
  | (apply w_assign; exact rfl; exact rfl)
  | apply AWp.seq
  | apply AWp.region
  | ((apply AWp.condP; exact rfl) <;> intro h)
  | ((apply AWp.condN; exact rfl) <;> intro h)
  | (apply AWp.condT; exact rfl)
  | (apply AWp.condF; exact rfl)
  | ((apply AWp.condB; exact rfl) <;> intro h)
  | apply AWp.block
  | apply AWp.ret
  | apply AWp.exit
  | apply AWp.skip
  | (apply if_pos'; exact rfl)
  | (apply if_neg'; decide)
  | (apply w_skip; exact rfl)
  | (apply w_pickT; exact rfl; exact rfl; exact rfl)
  | (apply w_pickF; exact rfl; exact rfl; exact rfl)
  | (apply w_len; exact rfl; exact rfl; first | exact .ints _ | exact .intss _ | exact .sli rfl | exact .sls rfl | exact .slr rfl | exact .orow rfl | exact .nil)
  | ((first | apply w_lss | apply w_leq | apply w_gtr | apply w_geq | apply w_eql | apply w_neq | apply w_add | apply w_sub | apply w_mul | apply w_idx | apply w_ld | apply w_fld | apply w_fa | apply w_extv | apply w_min | apply w_max | apply w_slhi | apply w_sllo | apply w_bs2); iterate 3 exact rfl)
  | ((first | apply w_eqlb | apply w_neqb | apply w_idxs | apply w_lds | apply w_ext); iterate 3 exact rfl)
  | (apply w_rem; exact rfl; exact rfl; exact rfl; (focus (omega; done)); (focus (omega; done)))
  | (apply w_quo; exact rfl; exact rfl; exact rfl; (focus (omega; done)); (focus (omega; done)))
  | (apply w_remT; exact rfl; exact rfl; exact rfl)
  | (apply w_quoT; exact rfl; exact rfl; exact rfl)
  | ((first | apply w_not | apply w_neg | apply w_conv | apply w_build0 | apply w_bs1 | apply w_boxa); iterate 2 exact rfl)
  | (apply w_idxo; exact rfl; exact rfl; (first | exact .sli rfl | exact .sls rfl | exact .slr rfl); exact rfl)
  | ((first | apply w_idxr | apply w_ldr); iterate 4 exact rfl)
  | (apply w_ldo; iterate 4 exact rfl)
  | (apply w_ldls; iterate 4 exact rfl)
  | (apply w_ldrp; iterate 4 exact rfl)
  | (apply w_ldb; iterate 5 exact rfl)
  | (apply w_ldst; iterate 5 exact rfl)
  | ((first | apply w_sllh | apply w_stbi); iterate 4 exact rfl)
  | ((first | apply w_oslo | apply w_oshi | apply w_stbii); iterate 4 exact rfl)
  | (apply w_build1; exact rfl; exact rfl; (first | exact one_val rfl rfl | exact one_ints | exact one_intss | exact one_own rfl True.intro))
  | (apply w_build2; exact rfl; exact rfl; exact rfl; (first | exact one_val rfl rfl | exact one_ints | exact one_intss | exact one_own rfl True.intro); (first | exact one_val rfl rfl | exact one_ints | exact one_intss | exact one_own rfl True.intro))
  | (apply w_bs0; iterate 1 exact rfl)
  | (apply w_appn; exact rfl; exact rfl; (first | exact .ints _ | exact .sli rfl | exact .orow rfl | exact .nil | exact .osub rfl (by simp; omega)); exact rfl)
  | (apply w_app; exact rfl; exact rfl; exact rfl; exact rfl; (first | exact .ints _ | exact .sli rfl | exact .orow rfl | exact .nil | exact .osub rfl (by simp; omega)); rotate_left 1; simp only [Env.mp, List.map_cons, List.map_nil, List.set_cons_zero, List.set_cons_succ, AV.kill, AV.kill1, AO.kill, AV.noRow, AV.noRow1, AO.via, reduceIte, Nat.reduceEqDiff, Nat.reduceLT, Env.up, Nat.zero_ne_one, Nat.one_ne_zero, Nat.reduceAdd, List.cons_append, List.nil_append]; rotate_left 1)
  | (apply w_alst; iterate 2 exact rfl)
  | (apply w_alone; iterate 3 exact rfl)
  | (apply w_mki; exact rfl; exact rfl; rotate_left 3; exact rfl; rotate_left 1)
  | (apply w_sti; exact rfl; exact rfl; rotate_left 1; exact rfl; rotate_left 2)
  | (apply w_stst; iterate 5 exact rfl)
  | (apply w_stbv; iterate 6 exact rfl)
  | (apply w_stbo; exact rfl; exact rfl; exact rfl; exact rfl; exact rfl; exact True.intro)
  | ((apply AOps.splitB; exact rfl; exact rfl) <;> intro h)
  | apply AllOf.nil
  | (apply AllOf.cons; exact rfl)
  | (apply AAny.take; exact rfl; exact rfl; kernel_rfl; kernel_rfl)
  | (apply AAny.all; exact rfl)
  | (apply AAny.done; exact rfl)
  | (apply inI_of <;> omega)
  | omega
  | (simp <;> omega))
    refine AWp.loopJ (ι := Nat) (κ := Nat) 4 (fun s => ⟨129, [(3, .optr 1 0), (6, .i (cC n m)), (7, .own 2), (8, .own 3), (9, .own 4), (10, .i j), (11, .own 6), (12, .i s)]⟩) (fun _ => [.bx 27 [.i n, .ints a], .bx 27 [.i m, .ints b], .sli 2 (rtL m), .sli 2 (ctL n m a b j), .sli 2 sa, .sli 2 cj, .sli 2 sb]) (fun s => (s ≤ La ∨ s ≤ Lb) ∧ (∀ t, t < s → fa t = fb t) ∧ (s < La → s < Lb → fa s ≠ fb s)) (fun s => La - s) s0
      (fun s => ⟨129, [(3, .optr 1 0), (6, .i (cC n m)), (7, .own 2), (8, .own 3), (9, .own 4), (10, .i j), (11, .own 6), (12, .i s)]⟩) (fun _ => [.bx 27 [.i n, .ints a], .bx 27 [.i m, .ints b], .sli 2 (rtL m), .sli 2 (ctL n m a b j), .sli 2 sa, .sli 2 cj, .sli 2 sb]) (fun s => (s ≤ La ∨ s ≤ Lb) ∧ (∀ t, t < s → fa t = fb t) ∧ (s < La → s < Lb → fa s ≠ fb s) ∧ (s < La → Lb ≤ s → fa s ≠ 0)) p0 ⟨lee rfl (by (repeat (first | exact le_nil | refine le_eq rfl rfl ?_ | refine le_eq rfl (congrArg AV.i (by omega)) ?_))), by (repeat (first | exact lo_nil | refine lo_dead ?_ | refine lo_eq rfl ?_)), rfl, rfl⟩ ?_ ?_
    rotate_left 1
    · rintro s ⟨q0, q1, q2⟩
      by_cases c1 : s < La ∧ Lb ≤ s
      · have ga' := ga s c1.1
        by_cases he : fa s = 0
        · repeat' (first
  | (apply AOps.nil; try simp only [List.nil_append, List.cons_append, List.set_cons_zero, List.set_cons_succ, List.length_cons, List.length_nil, Nat.reduceAdd, AV.sh, AV.sh1, AV.sh0, AO.sh, List.map_cons, List.map_nil, Nat.zero_add, Nat.add_zero, setAll])
  | ((apply AOps.splitP; exact rfl; exact rfl) <;> intro h)
  | ((apply AOps.splitN; exact rfl; exact rfl) <;> intro h)
  | (apply w_move; exact rfl; exact rfl)
  | (apply w_assign; exact rfl; exact rfl)
  | apply AWp.seq
  | apply AWp.region
  | ((apply AWp.condP; exact rfl) <;> intro h)
  | ((apply AWp.condN; exact rfl) <;> intro h)
  | (apply AWp.condT; exact rfl)
  | (apply AWp.condF; exact rfl)
  | ((apply AWp.condB; exact rfl) <;> intro h)
  | apply AWp.block
  | apply AWp.ret
  | apply AWp.exit
  | apply AWp.skip
  | (apply AWp.regionQ; kernel_rfl; kernel_rfl)
  | (apply if_pos'; exact rfl)
  | (apply if_neg'; decide)
  | (apply w_skip; exact rfl)
  | (apply w_pickT; exact rfl; exact rfl; exact rfl)
  | (apply w_pickF; exact rfl; exact rfl; exact rfl)
  | (apply w_len; exact rfl; exact rfl; first | exact .ints _ | exact .intss _ | exact .sli rfl | exact .sls rfl | exact .slr rfl | exact .orow rfl | exact .nil)
  | ((first | apply w_lss | apply w_leq | apply w_gtr | apply w_geq | apply w_eql | apply w_neq | apply w_add | apply w_sub | apply w_mul | apply w_idx | apply w_ld | apply w_fld | apply w_fa | apply w_extv | apply w_min | apply w_max | apply w_slhi | apply w_sllo | apply w_bs2); iterate 3 exact rfl)
  | ((first | apply w_eqlb | apply w_neqb | apply w_idxs | apply w_lds | apply w_ext); iterate 3 exact rfl)
  | (apply w_rem; exact rfl; exact rfl; exact rfl; (focus (omega; done)); (focus (omega; done)))
  | (apply w_quo; exact rfl; exact rfl; exact rfl; (focus (omega; done)); (focus (omega; done)))
  | (apply w_remT; exact rfl; exact rfl; exact rfl)
  | (apply w_quoT; exact rfl; exact rfl; exact rfl)
  | ((first | apply w_not | apply w_neg | apply w_conv | apply w_build0 | apply w_bs1 | apply w_boxa); iterate 2 exact rfl)
  | (apply w_idxo; exact rfl; exact rfl; (first | exact .sli rfl | exact .sls rfl | exact .slr rfl); exact rfl)
  | ((first | apply w_idxr | apply w_ldr); iterate 4 exact rfl)
  | (apply w_ldo; iterate 4 exact rfl)
  | (apply w_ldls; iterate 4 exact rfl)
  | (apply w_ldrp; iterate 4 exact rfl)
  | (apply w_ldb; iterate 5 exact rfl)
  | (apply w_ldst; iterate 5 exact rfl)
  | ((first | apply w_sllh | apply w_stbi); iterate 4 exact rfl)
  | ((first | apply w_oslo | apply w_oshi | apply w_stbii); iterate 4 exact rfl)
  | (apply w_build1; exact rfl; exact rfl; (first | exact one_val rfl rfl | exact one_ints | exact one_intss | exact one_own rfl True.intro))
  | (apply w_build2; exact rfl; exact rfl; exact rfl; (first | exact one_val rfl rfl | exact one_ints | exact one_intss | exact one_own rfl True.intro); (first | exact one_val rfl rfl | exact one_ints | exact one_intss | exact one_own rfl True.intro))
  | (apply w_bs0; iterate 1 exact rfl)
  | (apply w_appn; exact rfl; exact rfl; (first | exact .ints _ | exact .sli rfl | exact .orow rfl | exact .nil | exact .osub rfl (by simp; omega)); exact rfl)
  | (apply w_app; exact rfl; exact rfl; exact rfl; exact rfl; (first | exact .ints _ | exact .sli rfl | exact .orow rfl | exact .nil | exact .osub rfl (by simp; omega)); rotate_left 1; simp only [Env.mp, List.map_cons, List.map_nil, List.set_cons_zero, List.set_cons_succ, AV.kill, AV.kill1, AO.kill, AV.noRow, AV.noRow1, AO.via, reduceIte, Nat.reduceEqDiff, Nat.reduceLT, Env.up, Nat.zero_ne_one, Nat.one_ne_zero, Nat.reduceAdd, List.cons_append, List.nil_append]; rotate_left 1)
  | (apply w_alst; iterate 2 exact rfl)
  | (apply w_alone; iterate 3 exact rfl)
  | (apply w_mki; exact rfl; exact rfl; rotate_left 3; exact rfl; rotate_left 1)
  | (apply w_sti; exact rfl; exact rfl; rotate_left 1; exact rfl; rotate_left 2)
  | (apply w_stst; iterate 5 exact rfl)
  | (apply w_stbv; iterate 6 exact rfl)
  | (apply w_stbo; exact rfl; exact rfl; exact rfl; exact rfl; exact rfl; exact True.intro)
  | ((apply AOps.splitB; exact rfl; exact rfl) <;> intro h)
  | apply AllOf.nil
  | (apply AllOf.cons; exact rfl)
  | (apply AAny.take; exact rfl; exact rfl; kernel_rfl; kernel_rfl)
  | (apply AAny.all; exact rfl)
  | (apply AAny.done; exact rfl)
  | (apply inI_of <;> omega)
  | omega
  | (simp <;> omega))
          all_goals first
            | (exfalso; omega)
            | (
                refine ⟨s + 1, ⟨by omega, fun t ht => ?_, fun h5 h6 => by omega⟩, by omega, ⟨lee rfl (by (repeat (first | exact le_nil | refine le_eq rfl rfl ?_ | refine le_eq rfl (congrArg AV.i (by omega)) ?_))), by (repeat (first | exact lo_nil | refine lo_dead ?_ | refine lo_eq rfl ?_)), rfl, rfl⟩⟩
                by_cases e : t = s
                · subst e; rw [he, zb t c1.2]
                · exact q1 t (by omega))
        · repeat' (first
  | (apply AOps.nil; try simp only [List.nil_append, List.cons_append, List.set_cons_zero, List.set_cons_succ, List.length_cons, List.length_nil, Nat.reduceAdd, AV.sh, AV.sh1, AV.sh0, AO.sh, List.map_cons, List.map_nil, Nat.zero_add, Nat.add_zero, setAll])
  | ((apply AOps.splitP; exact rfl; exact rfl) <;> intro h)
  | ((apply AOps.splitN; exact rfl; exact rfl) <;> intro h)
  | (apply w_move; exact rfl; exact rfl)
  | (apply w_assign; exact rfl; exact rfl)
  | apply AWp.seq
  | apply AWp.region
  | ((apply AWp.condP; exact rfl) <;> intro h)
  | ((apply AWp.condN; exact rfl) <;> intro h)
  | (apply AWp.condT; exact rfl)
  | (apply AWp.condF; exact rfl)
  | ((apply AWp.condB; exact rfl) <;> intro h)
  | apply AWp.block
  | apply AWp.ret
  | apply AWp.exit
  | apply AWp.skip
  | (apply AWp.regionQ; kernel_rfl; kernel_rfl)
  | (apply if_pos'; exact rfl)
  | (apply if_neg'; decide)
  | (apply w_skip; exact rfl)
  | (apply w_pickT; exact rfl; exact rfl; exact rfl)
  | (apply w_pickF; exact rfl; exact rfl; exact rfl)
  | (apply w_len; exact rfl; exact rfl; first | exact .ints _ | exact .intss _ | exact .sli rfl | exact .sls rfl | exact .slr rfl | exact .orow rfl | exact .nil)
  | ((first | apply w_lss | apply w_leq | apply w_gtr | apply w_geq | apply w_eql | apply w_neq | apply w_add | apply w_sub | apply w_mul | apply w_idx | apply w_ld | apply w_fld | apply w_fa | apply w_extv | apply w_min | apply w_max | apply w_slhi | apply w_sllo | apply w_bs2); iterate 3 exact rfl)
  | ((first | apply w_eqlb | apply w_neqb | apply w_idxs | apply w_lds | apply w_ext); iterate 3 exact rfl)
  | (apply w_rem; exact rfl; exact rfl; exact rfl; (focus (omega; done)); (focus (omega; done)))
  | (apply w_quo; exact rfl; exact rfl; exact rfl; (focus (omega; done)); (focus (omega; done)))
  | (apply w_remT; exact rfl; exact rfl; exact rfl)
  | (apply w_quoT; exact rfl; exact rfl; exact rfl)
  | ((first | apply w_not | apply w_neg | apply w_conv | apply w_build0 | apply w_bs1 | apply w_boxa); iterate 2 exact rfl)
  | (apply w_idxo; exact rfl; exact rfl; (first | exact .sli rfl | exact .sls rfl | exact .slr rfl); exact rfl)
  | ((first | apply w_idxr | apply w_ldr); iterate 4 exact rfl)
  | (apply w_ldo; iterate 4 exact rfl)
  | (apply w_ldls; iterate 4 exact rfl)
  | (apply w_ldrp; iterate 4 exact rfl)
  | (apply w_ldb; iterate 5 exact rfl)
  | (apply w_ldst; iterate 5 exact rfl)
  | ((first | apply w_sllh | apply w_stbi); iterate 4 exact rfl)
  | ((first | apply w_oslo | apply w_oshi | apply w_stbii); iterate 4 exact rfl)
  | (apply w_build1; exact rfl; exact rfl; (first | exact one_val rfl rfl | exact one_ints | exact one_intss | exact one_own rfl True.intro))
  | (apply w_build2; exact rfl; exact rfl; exact rfl; (first | exact one_val rfl rfl | exact one_ints | exact one_intss | exact one_own rfl True.intro); (first | exact one_val rfl rfl | exact one_ints | exact one_intss | exact one_own rfl True.intro))
  | (apply w_bs0; iterate 1 exact rfl)
  | (apply w_appn; exact rfl; exact rfl; (first | exact .ints _ | exact .sli rfl | exact .orow rfl | exact .nil | exact .osub rfl (by simp; omega)); exact rfl)
  | (apply w_app; exact rfl; exact rfl; exact rfl; exact rfl; (first | exact .ints _ | exact .sli rfl | exact .orow rfl | exact .nil | exact .osub rfl (by simp; omega)); rotate_left 1; simp only [Env.mp, List.map_cons, List.map_nil, List.set_cons_zero, List.set_cons_succ, AV.kill, AV.kill1, AO.kill, AV.noRow, AV.noRow1, AO.via, reduceIte, Nat.reduceEqDiff, Nat.reduceLT, Env.up, Nat.zero_ne_one, Nat.one_ne_zero, Nat.reduceAdd, List.cons_append, List.nil_append]; rotate_left 1)
  | (apply w_alst; iterate 2 exact rfl)
  | (apply w_alone; iterate 3 exact rfl)
  | (apply w_mki; exact rfl; exact rfl; rotate_left 3; exact rfl; rotate_left 1)
  | (apply w_sti; exact rfl; exact rfl; rotate_left 1; exact rfl; rotate_left 2)
  | (apply w_stst; iterate 5 exact rfl)
  | (apply w_stbv; iterate 6 exact rfl)
  | (apply w_stbo; exact rfl; exact rfl; exact rfl; exact rfl; exact rfl; exact True.intro)
  | ((apply AOps.splitB; exact rfl; exact rfl) <;> intro h)
  | apply AllOf.nil
  | (apply AllOf.cons; exact rfl)
  | (apply AAny.take; exact rfl; exact rfl; kernel_rfl; kernel_rfl)
  | (apply AAny.all; exact rfl)
  | (apply AAny.done; exact rfl)
  | (apply inI_of <;> omega)
  | omega
  | (simp <;> omega))
          all_goals first
            | (exfalso; omega)
            | exact ⟨s, ⟨by omega, q1, q2, fun _ _ => he⟩, ⟨lee rfl (by (repeat (first | exact le_nil | refine le_eq rfl rfl ?_ | refine le_eq rfl (congrArg AV.i (by omega)) ?_))), by (repeat (first | exact lo_nil | refine lo_dead ?_ | refine lo_eq rfl ?_)), rfl, rfl⟩⟩
      · repeat' (first
  | (apply AOps.nil; try simp only [List.nil_append, List.cons_append, List.set_cons_zero, List.set_cons_succ, List.length_cons, List.length_nil, Nat.reduceAdd, AV.sh, AV.sh1, AV.sh0, AO.sh, List.map_cons, List.map_nil, Nat.zero_add, Nat.add_zero, setAll])
  | ((apply AOps.splitP; exact rfl; exact rfl) <;> intro h)
  | ((apply AOps.splitN; exact rfl; exact rfl) <;> intro h)
  | (apply w_move; exact rfl; exact rfl)
  | (apply w_assign; exact rfl; exact rfl)
  | apply AWp.seq
  | apply AWp.region
  | ((apply AWp.condP; exact rfl) <;> intro h)
  | ((apply AWp.condN; exact rfl) <;> intro h)
  | (apply AWp.condT; exact rfl)
  | (apply AWp.condF; exact rfl)
  | ((apply AWp.condB; exact rfl) <;> intro h)
  | apply AWp.block
  | apply AWp.ret
  | apply AWp.exit
  | apply AWp.skip
  | (apply AWp.regionQ; kernel_rfl; kernel_rfl)
  | (apply if_pos'; exact rfl)
  | (apply if_neg'; decide)
  | (apply w_skip; exact rfl)
  | (apply w_pickT; exact rfl; exact rfl; exact rfl)
  | (apply w_pickF; exact rfl; exact rfl; exact rfl)
  | (apply w_len; exact rfl; exact rfl; first | exact .ints _ | exact .intss _ | exact .sli rfl | exact .sls rfl | exact .slr rfl | exact .orow rfl | exact .nil)
  | ((first | apply w_lss | apply w_leq | apply w_gtr | apply w_geq | apply w_eql | apply w_neq | apply w_add | apply w_sub | apply w_mul | apply w_idx | apply w_ld | apply w_fld | apply w_fa | apply w_extv | apply w_min | apply w_max | apply w_slhi | apply w_sllo | apply w_bs2); iterate 3 exact rfl)
  | ((first | apply w_eqlb | apply w_neqb | apply w_idxs | apply w_lds | apply w_ext); iterate 3 exact rfl)
  | (apply w_rem; exact rfl; exact rfl; exact rfl; (focus (omega; done)); (focus (omega; done)))
  | (apply w_quo; exact rfl; exact rfl; exact rfl; (focus (omega; done)); (focus (omega; done)))
  | (apply w_remT; exact rfl; exact rfl; exact rfl)
  | (apply w_quoT; exact rfl; exact rfl; exact rfl)
  | ((first | apply w_not | apply w_neg | apply w_conv | apply w_build0 | apply w_bs1 | apply w_boxa); iterate 2 exact rfl)
  | (apply w_idxo; exact rfl; exact rfl; (first | exact .sli rfl | exact .sls rfl | exact .slr rfl); exact rfl)
  | ((first | apply w_idxr | apply w_ldr); iterate 4 exact rfl)
  | (apply w_ldo; iterate 4 exact rfl)
  | (apply w_ldls; iterate 4 exact rfl)
  | (apply w_ldrp; iterate 4 exact rfl)
  | (apply w_ldb; iterate 5 exact rfl)
  | (apply w_ldst; iterate 5 exact rfl)
  | ((first | apply w_sllh | apply w_stbi); iterate 4 exact rfl)
  | ((first | apply w_oslo | apply w_oshi | apply w_stbii); iterate 4 exact rfl)
  | (apply w_build1; exact rfl; exact rfl; (first | exact one_val rfl rfl | exact one_ints | exact one_intss | exact one_own rfl True.intro))
  | (apply w_build2; exact rfl; exact rfl; exact rfl; (first | exact one_val rfl rfl | exact one_ints | exact one_intss | exact one_own rfl True.intro); (first | exact one_val rfl rfl | exact one_ints | exact one_intss | exact one_own rfl True.intro))
  | (apply w_bs0; iterate 1 exact rfl)
  | (apply w_appn; exact rfl; exact rfl; (first | exact .ints _ | exact .sli rfl | exact .orow rfl | exact .nil | exact .osub rfl (by simp; omega)); exact rfl)
  | (apply w_app; exact rfl; exact rfl; exact rfl; exact rfl; (first | exact .ints _ | exact .sli rfl | exact .orow rfl | exact .nil | exact .osub rfl (by simp; omega)); rotate_left 1; simp only [Env.mp, List.map_cons, List.map_nil, List.set_cons_zero, List.set_cons_succ, AV.kill, AV.kill1, AO.kill, AV.noRow, AV.noRow1, AO.via, reduceIte, Nat.reduceEqDiff, Nat.reduceLT, Env.up, Nat.zero_ne_one, Nat.one_ne_zero, Nat.reduceAdd, List.cons_append, List.nil_append]; rotate_left 1)
  | (apply w_alst; iterate 2 exact rfl)
  | (apply w_alone; iterate 3 exact rfl)
  | (apply w_mki; exact rfl; exact rfl; rotate_left 3; exact rfl; rotate_left 1)
  | (apply w_sti; exact rfl; exact rfl; rotate_left 1; exact rfl; rotate_left 2)
  | (apply w_stst; iterate 5 exact rfl)
  | (apply w_stbv; iterate 6 exact rfl)
  | (apply w_stbo; exact rfl; exact rfl; exact rfl; exact rfl; exact rfl; exact True.intro)
  | ((apply AOps.splitB; exact rfl; exact rfl) <;> intro h)
  | apply AllOf.nil
  | (apply AllOf.cons; exact rfl)
  | (apply AAny.take; exact rfl; exact rfl; kernel_rfl; kernel_rfl)
  | (apply AAny.all; exact rfl)
  | (apply AAny.done; exact rfl)
  | (apply inI_of <;> omega)
  | omega
  | (simp <;> omega))
        all_goals first
          | (exfalso; omega)
          | exact ⟨s, ⟨by omega, q1, q2, fun h5 h6 => absurd ⟨h5, h6⟩ c1⟩, ⟨lee rfl (by (repeat (first | exact le_nil | refine le_eq rfl rfl ?_ | refine le_eq rfl (congrArg AV.i (by omega)) ?_))), by (repeat (first | exact lo_nil | refine lo_dead ?_ | refine lo_eq rfl ?_)), rfl, rfl⟩⟩
    rintro s1' p1 e1' o1' hf1
    apply if_pos'; exact rfl
    refine AWp.fit hf1 ?_
    repeat' (first
  | (apply AOps.nil; try simp only [List.nil_append, List.cons_append, List.set_cons_zero, List.set_cons_succ, List.length_cons, List.length_nil, Nat.reduceAdd, AV.sh, AV.sh1, AV.sh0, AO.sh, List.map_cons, List.map_nil, Nat.zero_add, Nat.add_zero, setAll])
  | ((apply AOps.splitP; exact rfl; exact rfl) <;> intro h)
  | ((apply AOps.splitN; exact rfl; exact rfl) <;> intro h)
  | (apply w_move; exact rfl; exact rfl)
  | (apply w_assign; exact rfl; exact rfl)
  | apply AWp.seq
  | apply AWp.region
  | ((apply AWp.condP; exact rfl) <;> intro h)
  | ((apply AWp.condN; exact rfl) <;> intro h)
  | (apply AWp.condT; exact rfl)
  | (apply AWp.condF; exact rfl)
  | ((apply AWp.condB; exact rfl) <;> intro h)
  | apply AWp.block
  | apply AWp.ret
  | apply AWp.exit
  | apply AWp.skip
  | (apply if_pos'; exact rfl)
  | (apply if_neg'; decide)
  | (apply w_skip; exact rfl)
  | (apply w_pickT; exact rfl; exact rfl; exact rfl)
  | (apply w_pickF; exact rfl; exact rfl; exact rfl)
  | (apply w_len; exact rfl; exact rfl; first | exact .ints _ | exact .intss _ | exact .sli rfl | exact .sls rfl | exact .slr rfl | exact .orow rfl | exact .nil)
  | ((first | apply w_lss | apply w_leq | apply w_gtr | apply w_geq | apply w_eql | apply w_neq | apply w_add | apply w_sub | apply w_mul | apply w_idx | apply w_ld | apply w_fld | apply w_fa | apply w_extv | apply w_min | apply w_max | apply w_slhi | apply w_sllo | apply w_bs2); iterate 3 exact rfl)
  | ((first | apply w_eqlb | apply w_neqb | apply w_idxs | apply w_lds | apply w_ext); iterate 3 exact rfl)
  | (apply w_rem; exact rfl; exact rfl; exact rfl; (focus (omega; done)); (focus (omega; done)))
  | (apply w_quo; exact rfl; exact rfl; exact rfl; (focus (omega; done)); (focus (omega; done)))
  | (apply w_remT; exact rfl; exact rfl; exact rfl)
  | (apply w_quoT; exact rfl; exact rfl; exact rfl)
  | ((first | apply w_not | apply w_neg | apply w_conv | apply w_build0 | apply w_bs1 | apply w_boxa); iterate 2 exact rfl)
  | (apply w_idxo; exact rfl; exact rfl; (first | exact .sli rfl | exact .sls rfl | exact .slr rfl); exact rfl)
  | ((first | apply w_idxr | apply w_ldr); iterate 4 exact rfl)
  | (apply w_ldo; iterate 4 exact rfl)
  | (apply w_ldls; iterate 4 exact rfl)
  | (apply w_ldrp; iterate 4 exact rfl)
  | (apply w_ldb; iterate 5 exact rfl)
  | (apply w_ldst; iterate 5 exact rfl)
  | ((first | apply w_sllh | apply w_stbi); iterate 4 exact rfl)
  | ((first | apply w_oslo | apply w_oshi | apply w_stbii); iterate 4 exact rfl)
  | (apply w_build1; exact rfl; exact rfl; (first | exact one_val rfl rfl | exact one_ints | exact one_intss | exact one_own rfl True.intro))
  | (apply w_build2; exact rfl; exact rfl; exact rfl; (first | exact one_val rfl rfl | exact one_ints | exact one_intss | exact one_own rfl True.intro); (first | exact one_val rfl rfl | exact one_ints | exact one_intss | exact one_own rfl True.intro))
  | (apply w_bs0; iterate 1 exact rfl)
  | (apply w_appn; exact rfl; exact rfl; (first | exact .ints _ | exact .sli rfl | exact .orow rfl | exact .nil | exact .osub rfl (by simp; omega)); exact rfl)
  | (apply w_app; exact rfl; exact rfl; exact rfl; exact rfl; (first | exact .ints _ | exact .sli rfl | exact .orow rfl | exact .nil | exact .osub rfl (by simp; omega)); rotate_left 1; simp only [Env.mp, List.map_cons, List.map_nil, List.set_cons_zero, List.set_cons_succ, AV.kill, AV.kill1, AO.kill, AV.noRow, AV.noRow1, AO.via, reduceIte, Nat.reduceEqDiff, Nat.reduceLT, Env.up, Nat.zero_ne_one, Nat.one_ne_zero, Nat.reduceAdd, List.cons_append, List.nil_append]; rotate_left 1)
  | (apply w_alst; iterate 2 exact rfl)
  | (apply w_alone; iterate 3 exact rfl)
  | (apply w_mki; exact rfl; exact rfl; rotate_left 3; exact rfl; rotate_left 1)
  | (apply w_sti; exact rfl; exact rfl; rotate_left 1; exact rfl; rotate_left 2)
  | (apply w_stst; iterate 5 exact rfl)
  | (apply w_stbv; iterate 6 exact rfl)
  | (apply w_stbo; exact rfl; exact rfl; exact rfl; exact rfl; exact rfl; exact True.intro)
  | ((apply AOps.splitB; exact rfl; exact rfl) <;> intro h)
  | apply AllOf.nil
  | (apply AllOf.cons; exact rfl)
  | (apply AAny.take; exact rfl; exact rfl; kernel_rfl; kernel_rfl)
  | (apply AAny.all; exact rfl)
  | (apply AAny.done; exact rfl)
  | (apply inI_of <;> omega)
  | omega
  | (simp <;> omega))
    refine AWp.loopJ (ι := Nat) (κ := Nat) 6 (fun s => ⟨129, [(3, .optr 1 0), (6, .i (cC n m)), (7, .own 2), (8, .own 3), (9, .own 4), (10, .i j), (11, .own 6), (12, .i s)]⟩) (fun _ => [.bx 27 [.i n, .ints a], .bx 27 [.i m, .ints b], .sli 2 (rtL m), .sli 2 (ctL n m a b j), .sli 2 sa, .sli 2 cj, .sli 2 sb]) (fun s => (s ≤ La ∨ s ≤ Lb) ∧ (∀ t, t < s → fa t = fb t) ∧ (s < La → s < Lb → fa s ≠ fb s) ∧ (s < La → Lb ≤ s → fa s ≠ 0)) (fun s => Lb - s) s1'
      (fun s => ⟨129, [(3, .optr 1 0), (6, .i (cC n m)), (7, .own 2), (8, .own 3), (9, .own 4), (10, .i j), (11, .own 6), (12, .i s)]⟩) (fun _ => [.bx 27 [.i n, .ints a], .bx 27 [.i m, .ints b], .sli 2 (rtL m), .sli 2 (ctL n m a b j), .sli 2 sa, .sli 2 cj, .sli 2 sb]) (fun s => (s ≤ La ∨ s ≤ Lb) ∧ (∀ t, t < s → fa t = fb t) ∧ (s < La ∨ s < Lb → fa s ≠ fb s)) p1 ⟨lee rfl (by (repeat (first | exact le_nil | refine le_eq rfl rfl ?_ | refine le_eq rfl (congrArg AV.i (by omega)) ?_))), by (repeat (first | exact lo_nil | refine lo_dead ?_ | refine lo_eq rfl ?_)), rfl, rfl⟩ ?_ ?_
    rotate_left 1
    · rintro s ⟨q0, q1, q2, q3⟩
      have fin1 : s < La → fa s ≠ fb s := fun h5 => by
        by_cases h6 : s < Lb
        · exact q2 h5 h6
        · rw [zb s (by omega)]; exact q3 h5 (by omega)
      by_cases c1 : s < Lb ∧ La ≤ s
      · have gb' := gb s c1.1
        by_cases he : fb s = 0
        · repeat' (first
  | (apply AOps.nil; try simp only [List.nil_append, List.cons_append, List.set_cons_zero, List.set_cons_succ, List.length_cons, List.length_nil, Nat.reduceAdd, AV.sh, AV.sh1, AV.sh0, AO.sh, List.map_cons, List.map_nil, Nat.zero_add, Nat.add_zero, setAll])
  | ((apply AOps.splitP; exact rfl; exact rfl) <;> intro h)
  | ((apply AOps.splitN; exact rfl; exact rfl) <;> intro h)
  | (apply w_move; exact rfl; exact rfl)
  | (apply w_assign; exact rfl; exact rfl)
  | apply AWp.seq
  | apply AWp.region
  | ((apply AWp.condP; exact rfl) <;> intro h)
  | ((apply AWp.condN; exact rfl) <;> intro h)
  | (apply AWp.condT; exact rfl)
  | (apply AWp.condF; exact rfl)
  | ((apply AWp.condB; exact rfl) <;> intro h)
  | apply AWp.block
  | apply AWp.ret
  | apply AWp.exit
  | apply AWp.skip
  | (apply AWp.regionQ; kernel_rfl; kernel_rfl)
  | (apply if_pos'; exact rfl)
  | (apply if_neg'; decide)
  | (apply w_skip; exact rfl)
  | (apply w_pickT; exact rfl; exact rfl; exact rfl)
  | (apply w_pickF; exact rfl; exact rfl; exact rfl)
  | (apply w_len; exact rfl; exact rfl; first | exact .ints _ | exact .intss _ | exact .sli rfl | exact .sls rfl | exact .slr rfl | exact .orow rfl | exact .nil)
  | ((first | apply w_lss | apply w_leq | apply w_gtr | apply w_geq | apply w_eql | apply w_neq | apply w_add | apply w_sub | apply w_mul | apply w_idx | apply w_ld | apply w_fld | apply w_fa | apply w_extv | apply w_min | apply w_max | apply w_slhi | apply w_sllo | apply w_bs2); iterate 3 exact rfl)
  | ((first | apply w_eqlb | apply w_neqb | apply w_idxs | apply w_lds | apply w_ext); iterate 3 exact rfl)
  | (apply w_rem; exact rfl; exact rfl; exact rfl; (focus (omega; done)); (focus (omega; done)))
  | (apply w_quo; exact rfl; exact rfl; exact rfl; (focus (omega; done)); (focus (omega; done)))
  | (apply w_remT; exact rfl; exact rfl; exact rfl)
  | (apply w_quoT; exact rfl; exact rfl; exact rfl)
  | ((first | apply w_not | apply w_neg | apply w_conv | apply w_build0 | apply w_bs1 | apply w_boxa); iterate 2 exact rfl)
  | (apply w_idxo; exact rfl; exact rfl; (first | exact .sli rfl | exact .sls rfl | exact .slr rfl); exact rfl)
  | ((first | apply w_idxr | apply w_ldr); iterate 4 exact rfl)
  | (apply w_ldo; iterate 4 exact rfl)
  | (apply w_ldls; iterate 4 exact rfl)
  | (apply w_ldrp; iterate 4 exact rfl)
  | (apply w_ldb; iterate 5 exact rfl)
  | (apply w_ldst; iterate 5 exact rfl)
  | ((first | apply w_sllh | apply w_stbi); iterate 4 exact rfl)
  | ((first | apply w_oslo | apply w_oshi | apply w_stbii); iterate 4 exact rfl)
  | (apply w_build1; exact rfl; exact rfl; (first | exact one_val rfl rfl | exact one_ints | exact one_intss | exact one_own rfl True.intro))
  | (apply w_build2; exact rfl; exact rfl; exact rfl; (first | exact one_val rfl rfl | exact one_ints | exact one_intss | exact one_own rfl True.intro); (first | exact one_val rfl rfl | exact one_ints | exact one_intss | exact one_own rfl True.intro))
  | (apply w_bs0; iterate 1 exact rfl)
  | (apply w_appn; exact rfl; exact rfl; (first | exact .ints _ | exact .sli rfl | exact .orow rfl | exact .nil | exact .osub rfl (by simp; omega)); exact rfl)
  | (apply w_app; exact rfl; exact rfl; exact rfl; exact rfl; (first | exact .ints _ | exact .sli rfl | exact .orow rfl | exact .nil | exact .osub rfl (by simp; omega)); rotate_left 1; simp only [Env.mp, List.map_cons, List.map_nil, List.set_cons_zero, List.set_cons_succ, AV.kill, AV.kill1, AO.kill, AV.noRow, AV.noRow1, AO.via, reduceIte, Nat.reduceEqDiff, Nat.reduceLT, Env.up, Nat.zero_ne_one, Nat.one_ne_zero, Nat.reduceAdd, List.cons_append, List.nil_append]; rotate_left 1)
  | (apply w_alst; iterate 2 exact rfl)
  | (apply w_alone; iterate 3 exact rfl)
  | (apply w_mki; exact rfl; exact rfl; rotate_left 3; exact rfl; rotate_left 1)
  | (apply w_sti; exact rfl; exact rfl; rotate_left 1; exact rfl; rotate_left 2)
  | (apply w_stst; iterate 5 exact rfl)
  | (apply w_stbv; iterate 6 exact rfl)
  | (apply w_stbo; exact rfl; exact rfl; exact rfl; exact rfl; exact rfl; exact True.intro)
  | ((apply AOps.splitB; exact rfl; exact rfl) <;> intro h)
  | apply AllOf.nil
  | (apply AllOf.cons; exact rfl)
  | (apply AAny.take; exact rfl; exact rfl; kernel_rfl; kernel_rfl)
  | (apply AAny.all; exact rfl)
  | (apply AAny.done; exact rfl)
  | (apply inI_of <;> omega)
  | omega
  | (simp <;> omega))
          all_goals first
            | (exfalso; omega)
            | (
                refine ⟨s + 1, ⟨by omega, fun t ht => ?_, fun h5 h6 => by omega, fun h5 h6 => by omega⟩, by omega, ⟨lee rfl (by (repeat (first | exact le_nil | refine le_eq rfl rfl ?_ | refine le_eq rfl (congrArg AV.i (by omega)) ?_))), by (repeat (first | exact lo_nil | refine lo_dead ?_ | refine lo_eq rfl ?_)), rfl, rfl⟩⟩
                by_cases e : t = s
                · subst e; rw [he, za t c1.2]
                · exact q1 t (by omega))
        · repeat' (first
  | (apply AOps.nil; try simp only [List.nil_append, List.cons_append, List.set_cons_zero, List.set_cons_succ, List.length_cons, List.length_nil, Nat.reduceAdd, AV.sh, AV.sh1, AV.sh0, AO.sh, List.map_cons, List.map_nil, Nat.zero_add, Nat.add_zero, setAll])
  | ((apply AOps.splitP; exact rfl; exact rfl) <;> intro h)
  | ((apply AOps.splitN; exact rfl; exact rfl) <;> intro h)
  | (apply w_move; exact rfl; exact rfl)
  | (apply w_assign; exact rfl; exact rfl)
  | apply AWp.seq
  | apply AWp.region
  | ((apply AWp.condP; exact rfl) <;> intro h)
  | ((apply AWp.condN; exact rfl) <;> intro h)
  | (apply AWp.condT; exact rfl)
  | (apply AWp.condF; exact rfl)
  | ((apply AWp.condB; exact rfl) <;> intro h)
  | apply AWp.block
  | apply AWp.ret
  | apply AWp.exit
  | apply AWp.skip
  | (apply AWp.regionQ; kernel_rfl; kernel_rfl)
  | (apply if_pos'; exact rfl)
  | (apply if_neg'; decide)
  | (apply w_skip; exact rfl)
  | (apply w_pickT; exact rfl; exact rfl; exact rfl)
  | (apply w_pickF; exact rfl; exact rfl; exact rfl)
  | (apply w_len; exact rfl; exact rfl; first | exact .ints _ | exact .intss _ | exact .sli rfl | exact .sls rfl | exact .slr rfl | exact .orow rfl | exact .nil)
  | ((first | apply w_lss | apply w_leq | apply w_gtr | apply w_geq | apply w_eql | apply w_neq | apply w_add | apply w_sub | apply w_mul | apply w_idx | apply w_ld | apply w_fld | apply w_fa | apply w_extv | apply w_min | apply w_max | apply w_slhi | apply w_sllo | apply w_bs2); iterate 3 exact rfl)
  | ((first | apply w_eqlb | apply w_neqb | apply w_idxs | apply w_lds | apply w_ext); iterate 3 exact rfl)
  | (apply w_rem; exact rfl; exact rfl; exact rfl; (focus (omega; done)); (focus (omega; done)))
  | (apply w_quo; exact rfl; exact rfl; exact rfl; (focus (omega; done)); (focus (omega; done)))
  | (apply w_remT; exact rfl; exact rfl; exact rfl)
  | (apply w_quoT; exact rfl; exact rfl; exact rfl)
  | ((first | apply w_not | apply w_neg | apply w_conv | apply w_build0 | apply w_bs1 | apply w_boxa); iterate 2 exact rfl)
  | (apply w_idxo; exact rfl; exact rfl; (first | exact .sli rfl | exact .sls rfl | exact .slr rfl); exact rfl)
  | ((first | apply w_idxr | apply w_ldr); iterate 4 exact rfl)
  | (apply w_ldo; iterate 4 exact rfl)
  | (apply w_ldls; iterate 4 exact rfl)
  | (apply w_ldrp; iterate 4 exact rfl)
  | (apply w_ldb; iterate 5 exact rfl)
  | (apply w_ldst; iterate 5 exact rfl)
  | ((first | apply w_sllh | apply w_stbi); iterate 4 exact rfl)
  | ((first | apply w_oslo | apply w_oshi | apply w_stbii); iterate 4 exact rfl)
  | (apply w_build1; exact rfl; exact rfl; (first | exact one_val rfl rfl | exact one_ints | exact one_intss | exact one_own rfl True.intro))
  | (apply w_build2; exact rfl; exact rfl; exact rfl; (first | exact one_val rfl rfl | exact one_ints | exact one_intss | exact one_own rfl True.intro); (first | exact one_val rfl rfl | exact one_ints | exact one_intss | exact one_own rfl True.intro))
  | (apply w_bs0; iterate 1 exact rfl)
  | (apply w_appn; exact rfl; exact rfl; (first | exact .ints _ | exact .sli rfl | exact .orow rfl | exact .nil | exact .osub rfl (by simp; omega)); exact rfl)
  | (apply w_app; exact rfl; exact rfl; exact rfl; exact rfl; (first | exact .ints _ | exact .sli rfl | exact .orow rfl | exact .nil | exact .osub rfl (by simp; omega)); rotate_left 1; simp only [Env.mp, List.map_cons, List.map_nil, List.set_cons_zero, List.set_cons_succ, AV.kill, AV.kill1, AO.kill, AV.noRow, AV.noRow1, AO.via, reduceIte, Nat.reduceEqDiff, Nat.reduceLT, Env.up, Nat.zero_ne_one, Nat.one_ne_zero, Nat.reduceAdd, List.cons_append, List.nil_append]; rotate_left 1)
  | (apply w_alst; iterate 2 exact rfl)
  | (apply w_alone; iterate 3 exact rfl)
  | (apply w_mki; exact rfl; exact rfl; rotate_left 3; exact rfl; rotate_left 1)
  | (apply w_sti; exact rfl; exact rfl; rotate_left 1; exact rfl; rotate_left 2)
  | (apply w_stst; iterate 5 exact rfl)
  | (apply w_stbv; iterate 6 exact rfl)
  | (apply w_stbo; exact rfl; exact rfl; exact rfl; exact rfl; exact rfl; exact True.intro)
  | ((apply AOps.splitB; exact rfl; exact rfl) <;> intro h)
  | apply AllOf.nil
  | (apply AllOf.cons; exact rfl)
  | (apply AAny.take; exact rfl; exact rfl; kernel_rfl; kernel_rfl)
  | (apply AAny.all; exact rfl)
  | (apply AAny.done; exact rfl)
  | (apply inI_of <;> omega)
  | omega
  | (simp <;> omega))
          all_goals first
            | (exfalso; omega)
            | exact ⟨s, ⟨by omega, q1, fun _ => by rw [za s c1.2]; exact fun e => he e.symm⟩, ⟨lee rfl (by (repeat (first | exact le_nil | refine le_eq rfl rfl ?_ | refine le_eq rfl (congrArg AV.i (by omega)) ?_))), by (repeat (first | exact lo_nil | refine lo_dead ?_ | refine lo_eq rfl ?_)), rfl, rfl⟩⟩
      · have fin2 : s < La ∨ s < Lb → fa s ≠ fb s := fun h5 => fin1 (by omega)
        repeat' (first
  | (apply AOps.nil; try simp only [List.nil_append, List.cons_append, List.set_cons_zero, List.set_cons_succ, List.length_cons, List.length_nil, Nat.reduceAdd, AV.sh, AV.sh1, AV.sh0, AO.sh, List.map_cons, List.map_nil, Nat.zero_add, Nat.add_zero, setAll])
  | ((apply AOps.splitP; exact rfl; exact rfl) <;> intro h)
  | ((apply AOps.splitN; exact rfl; exact rfl) <;> intro h)
  | (apply w_move; exact rfl; exact rfl)
  | (apply w_assign; exact rfl; exact rfl)
  | apply AWp.seq
  | apply AWp.region
  | ((apply AWp.condP; exact rfl) <;> intro h)
  | ((apply AWp.condN; exact rfl) <;> intro h)
  | (apply AWp.condT; exact rfl)
  | (apply AWp.condF; exact rfl)
  | ((apply AWp.condB; exact rfl) <;> intro h)
  | apply AWp.block
  | apply AWp.ret
  | apply AWp.exit
  | apply AWp.skip
  | (apply AWp.regionQ; kernel_rfl; kernel_rfl)
  | (apply if_pos'; exact rfl)
  | (apply if_neg'; decide)
  | (apply w_skip; exact rfl)
  | (apply w_pickT; exact rfl; exact rfl; exact rfl)
  | (apply w_pickF; exact rfl; exact rfl; exact rfl)
  | (apply w_len; exact rfl; exact rfl; first | exact .ints _ | exact .intss _ | exact .sli rfl | exact .sls rfl | exact .slr rfl | exact .orow rfl | exact .nil)
  | ((first | apply w_lss | apply w_leq | apply w_gtr | apply w_geq | apply w_eql | apply w_neq | apply w_add | apply w_sub | apply w_mul | apply w_idx | apply w_ld | apply w_fld | apply w_fa | apply w_extv | apply w_min | apply w_max | apply w_slhi | apply w_sllo | apply w_bs2); iterate 3 exact rfl)
  | ((first | apply w_eqlb | apply w_neqb | apply w_idxs | apply w_lds | apply w_ext); iterate 3 exact rfl)
  | (apply w_rem; exact rfl; exact rfl; exact rfl; (focus (omega; done)); (focus (omega; done)))
  | (apply w_quo; exact rfl; exact rfl; exact rfl; (focus (omega; done)); (focus (omega; done)))
  | (apply w_remT; exact rfl; exact rfl; exact rfl)
  | (apply w_quoT; exact rfl; exact rfl; exact rfl)
  | ((first | apply w_not | apply w_neg | apply w_conv | apply w_build0 | apply w_bs1 | apply w_boxa); iterate 2 exact rfl)
  | (apply w_idxo; exact rfl; exact rfl; (first | exact .sli rfl | exact .sls rfl | exact .slr rfl); exact rfl)
  | ((first | apply w_idxr | apply w_ldr); iterate 4 exact rfl)
  | (apply w_ldo; iterate 4 exact rfl)
  | (apply w_ldls; iterate 4 exact rfl)
  | (apply w_ldrp; iterate 4 exact rfl)
  | (apply w_ldb; iterate 5 exact rfl)
  | (apply w_ldst; iterate 5 exact rfl)
  | ((first | apply w_sllh | apply w_stbi); iterate 4 exact rfl)
  | ((first | apply w_oslo | apply w_oshi | apply w_stbii); iterate 4 exact rfl)
  | (apply w_build1; exact rfl; exact rfl; (first | exact one_val rfl rfl | exact one_ints | exact one_intss | exact one_own rfl True.intro))
  | (apply w_build2; exact rfl; exact rfl; exact rfl; (first | exact one_val rfl rfl | exact one_ints | exact one_intss | exact one_own rfl True.intro); (first | exact one_val rfl rfl | exact one_ints | exact one_intss | exact one_own rfl True.intro))
  | (apply w_bs0; iterate 1 exact rfl)
  | (apply w_appn; exact rfl; exact rfl; (first | exact .ints _ | exact .sli rfl | exact .orow rfl | exact .nil | exact .osub rfl (by simp; omega)); exact rfl)
  | (apply w_app; exact rfl; exact rfl; exact rfl; exact rfl; (first | exact .ints _ | exact .sli rfl | exact .orow rfl | exact .nil | exact .osub rfl (by simp; omega)); rotate_left 1; simp only [Env.mp, List.map_cons, List.map_nil, List.set_cons_zero, List.set_cons_succ, AV.kill, AV.kill1, AO.kill, AV.noRow, AV.noRow1, AO.via, reduceIte, Nat.reduceEqDiff, Nat.reduceLT, Env.up, Nat.zero_ne_one, Nat.one_ne_zero, Nat.reduceAdd, List.cons_append, List.nil_append]; rotate_left 1)
  | (apply w_alst; iterate 2 exact rfl)
  | (apply w_alone; iterate 3 exact rfl)
  | (apply w_mki; exact rfl; exact rfl; rotate_left 3; exact rfl; rotate_left 1)
  | (apply w_sti; exact rfl; exact rfl; rotate_left 1; exact rfl; rotate_left 2)
  | (apply w_stst; iterate 5 exact rfl)
  | (apply w_stbv; iterate 6 exact rfl)
  | (apply w_stbo; exact rfl; exact rfl; exact rfl; exact rfl; exact rfl; exact True.intro)
  | ((apply AOps.splitB; exact rfl; exact rfl) <;> intro h)
  | apply AllOf.nil
  | (apply AllOf.cons; exact rfl)
  | (apply AAny.take; exact rfl; exact rfl; kernel_rfl; kernel_rfl)
  | (apply AAny.all; exact rfl)
  | (apply AAny.done; exact rfl)
  | (apply inI_of <;> omega)
  | omega
  | (simp <;> omega))
        all_goals first
          | (exfalso; omega)
          | exact ⟨s, ⟨by omega, q1, fin2⟩, ⟨lee rfl (by (repeat (first | exact le_nil | refine le_eq rfl rfl ?_ | refine le_eq rfl (congrArg AV.i (by omega)) ?_))), by (repeat (first | exact lo_nil | refine lo_dead ?_ | refine lo_eq rfl ?_)), rfl, rfl⟩⟩
    rintro s2' ⟨pB, p2, p3⟩ e2' o2' hf2
    apply if_pos'; exact rfl
    refine AWp.fit hf2 ?_
    by_cases hb : s2' < La ∨ s2' < Lb
    · have ed : d = s2' := by rw [hD]; exact dif_is p2 (by omega) (p3 hb)
      rw [ed] at cl
      repeat' (first
  | (apply AOps.nil; try simp only [List.nil_append, List.cons_append, List.set_cons_zero, List.set_cons_succ, List.length_cons, List.length_nil, Nat.reduceAdd, AV.sh, AV.sh1, AV.sh0, AO.sh, List.map_cons, List.map_nil, Nat.zero_add, Nat.add_zero, setAll])
  | ((apply AOps.splitP; exact rfl; exact rfl) <;> intro h)
  | ((apply AOps.splitN; exact rfl; exact rfl) <;> intro h)
  | (apply w_move; exact rfl; exact rfl)
  | (apply w_assign; exact rfl; exact rfl)
  | apply AWp.seq
  | apply AWp.region
  | ((apply AWp.condP; exact rfl) <;> intro h)
  | ((apply AWp.condN; exact rfl) <;> intro h)
  | (apply AWp.condT; exact rfl)
  | (apply AWp.condF; exact rfl)
  | ((apply AWp.condB; exact rfl) <;> intro h)
  | apply AWp.block
  | apply AWp.ret
  | apply AWp.exit
  | apply AWp.skip
  | (apply if_pos'; exact rfl)
  | (apply if_neg'; decide)
  | (apply w_skip; exact rfl)
  | (apply w_pickT; exact rfl; exact rfl; exact rfl)
  | (apply w_pickF; exact rfl; exact rfl; exact rfl)
  | (apply w_len; exact rfl; exact rfl; first | exact .ints _ | exact .intss _ | exact .sli rfl | exact .sls rfl | exact .slr rfl | exact .orow rfl | exact .nil)
  | ((first | apply w_lss | apply w_leq | apply w_gtr | apply w_geq | apply w_eql | apply w_neq | apply w_add | apply w_sub | apply w_mul | apply w_idx | apply w_ld | apply w_fld | apply w_fa | apply w_extv | apply w_min | apply w_max | apply w_slhi | apply w_sllo | apply w_bs2); iterate 3 exact rfl)
  | ((first | apply w_eqlb | apply w_neqb | apply w_idxs | apply w_lds | apply w_ext); iterate 3 exact rfl)
  | (apply w_rem; exact rfl; exact rfl; exact rfl; (focus (omega; done)); (focus (omega; done)))
  | (apply w_quo; exact rfl; exact rfl; exact rfl; (focus (omega; done)); (focus (omega; done)))
  | (apply w_remT; exact rfl; exact rfl; exact rfl)
  | (apply w_quoT; exact rfl; exact rfl; exact rfl)
  | ((first | apply w_not | apply w_neg | apply w_conv | apply w_build0 | apply w_bs1 | apply w_boxa); iterate 2 exact rfl)
  | (apply w_idxo; exact rfl; exact rfl; (first | exact .sli rfl | exact .sls rfl | exact .slr rfl); exact rfl)
  | ((first | apply w_idxr | apply w_ldr); iterate 4 exact rfl)
  | (apply w_ldo; iterate 4 exact rfl)
  | (apply w_ldls; iterate 4 exact rfl)
  | (apply w_ldrp; iterate 4 exact rfl)
  | (apply w_ldb; iterate 5 exact rfl)
  | (apply w_ldst; iterate 5 exact rfl)
  | ((first | apply w_sllh | apply w_stbi); iterate 4 exact rfl)
  | ((first | apply w_oslo | apply w_oshi | apply w_stbii); iterate 4 exact rfl)
  | (apply w_build1; exact rfl; exact rfl; (first | exact one_val rfl rfl | exact one_ints | exact one_intss | exact one_own rfl True.intro))
  | (apply w_build2; exact rfl; exact rfl; exact rfl; (first | exact one_val rfl rfl | exact one_ints | exact one_intss | exact one_own rfl True.intro); (first | exact one_val rfl rfl | exact one_ints | exact one_intss | exact one_own rfl True.intro))
  | (apply w_bs0; iterate 1 exact rfl)
  | (apply w_appn; exact rfl; exact rfl; (first | exact .ints _ | exact .sli rfl | exact .orow rfl | exact .nil | exact .osub rfl (by simp; omega)); exact rfl)
  | (apply w_app; exact rfl; exact rfl; exact rfl; exact rfl; (first | exact .ints _ | exact .sli rfl | exact .orow rfl | exact .nil | exact .osub rfl (by simp; omega)); rotate_left 1; simp only [Env.mp, List.map_cons, List.map_nil, List.set_cons_zero, List.set_cons_succ, AV.kill, AV.kill1, AO.kill, AV.noRow, AV.noRow1, AO.via, reduceIte, Nat.reduceEqDiff, Nat.reduceLT, Env.up, Nat.zero_ne_one, Nat.one_ne_zero, Nat.reduceAdd, List.cons_append, List.nil_append]; rotate_left 1)
  | (apply w_alst; iterate 2 exact rfl)
  | (apply w_alone; iterate 3 exact rfl)
  | (apply w_mki; exact rfl; exact rfl; rotate_left 3; exact rfl; rotate_left 1)
  | (apply w_sti; exact rfl; exact rfl; rotate_left 1; exact rfl; rotate_left 2)
  | (apply w_stst; iterate 5 exact rfl)
  | (apply w_stbv; iterate 6 exact rfl)
  | (apply w_stbo; exact rfl; exact rfl; exact rfl; exact rfl; exact rfl; exact True.intro)
  | ((apply AOps.splitB; exact rfl; exact rfl) <;> intro h)
  | apply AllOf.nil
  | (apply AllOf.cons; exact rfl)
  | (apply AAny.take; exact rfl; exact rfl; kernel_rfl; kernel_rfl)
  | (apply AAny.all; exact rfl)
  | (apply AAny.done; exact rfl)
  | (apply inI_of <;> omega)
  | omega
  | (simp <;> omega))
      all_goals first
        | (exfalso; omega)
        | (
            refine ⟨j + 1, ⟨by omega, fun i hi => ?_⟩, by omega, ⟨lee rfl (by (repeat (first | exact le_nil | refine le_eq rfl rfl ?_ | refine le_eq rfl (congrArg AV.i (by omega)) ?_ | refine le_eq rfl (congrArg AV.i (cl)) ?_))), by (repeat (first | exact lo_nil | refine lo_dead ?_ | refine lo_eq rfl ?_ | refine lo_eq (congrArg (AO.sli _) (cl)) ?_ | refine lo_eq (congrArg (AO.sls _ _) (cl)) ?_)), rfl, rfl⟩⟩
            by_cases e : i = j
            · subst e; omega
            · exact j1 i (by omega))
    · have ed : d = S := by
        rw [hD]
        refine dif_all fun t ht => ?_
        by_cases h5 : t < s2'
        · exact p2 t h5
        · rw [za t (by omega), zb t (by omega)]
      have nok : ¬ CtAll n m a b := fun h => h j hj (by omega)
      have ok1 : ok = false := by rw [eok, coK, decide_eq_false nok]
      have ol1 : ol = [] := by rw [eol, coL, if_neg nok]
      repeat' (first
  | (apply AOps.nil; try simp only [List.nil_append, List.cons_append, List.set_cons_zero, List.set_cons_succ, List.length_cons, List.length_nil, Nat.reduceAdd, AV.sh, AV.sh1, AV.sh0, AO.sh, List.map_cons, List.map_nil, Nat.zero_add, Nat.add_zero, setAll])
  | ((apply AOps.splitP; exact rfl; exact rfl) <;> intro h)
  | ((apply AOps.splitN; exact rfl; exact rfl) <;> intro h)
  | (apply w_move; exact rfl; exact rfl)
  | (apply w_assign; exact rfl; exact rfl)
  | apply AWp.seq
  | apply AWp.region
  | ((apply AWp.condP; exact rfl) <;> intro h)
  | ((apply AWp.condN; exact rfl) <;> intro h)
  | (apply AWp.condT; exact rfl)
  | (apply AWp.condF; exact rfl)
  | ((apply AWp.condB; exact rfl) <;> intro h)
  | apply AWp.block
  | apply AWp.ret
  | apply AWp.exit
  | apply AWp.skip
  | (apply if_pos'; exact rfl)
  | (apply if_neg'; decide)
  | (apply w_skip; exact rfl)
  | (apply w_pickT; exact rfl; exact rfl; exact rfl)
  | (apply w_pickF; exact rfl; exact rfl; exact rfl)
  | (apply w_len; exact rfl; exact rfl; first | exact .ints _ | exact .intss _ | exact .sli rfl | exact .sls rfl | exact .slr rfl | exact .orow rfl | exact .nil)
  | ((first | apply w_lss | apply w_leq | apply w_gtr | apply w_geq | apply w_eql | apply w_neq | apply w_add | apply w_sub | apply w_mul | apply w_idx | apply w_ld | apply w_fld | apply w_fa | apply w_extv | apply w_min | apply w_max | apply w_slhi | apply w_sllo | apply w_bs2); iterate 3 exact rfl)
  | ((first | apply w_eqlb | apply w_neqb | apply w_idxs | apply w_lds | apply w_ext); iterate 3 exact rfl)
  | (apply w_rem; exact rfl; exact rfl; exact rfl; (focus (omega; done)); (focus (omega; done)))
  | (apply w_quo; exact rfl; exact rfl; exact rfl; (focus (omega; done)); (focus (omega; done)))
  | (apply w_remT; exact rfl; exact rfl; exact rfl)
  | (apply w_quoT; exact rfl; exact rfl; exact rfl)
  | ((first | apply w_not | apply w_neg | apply w_conv | apply w_build0 | apply w_bs1 | apply w_boxa); iterate 2 exact rfl)
  | (apply w_idxo; exact rfl; exact rfl; (first | exact .sli rfl | exact .sls rfl | exact .slr rfl); exact rfl)
  | ((first | apply w_idxr | apply w_ldr); iterate 4 exact rfl)
  | (apply w_ldo; iterate 4 exact rfl)
  | (apply w_ldls; iterate 4 exact rfl)
  | (apply w_ldrp; iterate 4 exact rfl)
  | (apply w_ldb; iterate 5 exact rfl)
  | (apply w_ldst; iterate 5 exact rfl)
  | ((first | apply w_sllh | apply w_stbi); iterate 4 exact rfl)
  | ((first | apply w_oslo | apply w_oshi | apply w_stbii); iterate 4 exact rfl)
  | (apply w_build1; exact rfl; exact rfl; (first | exact one_val rfl rfl | exact one_ints | exact one_intss | exact one_own rfl True.intro))
  | (apply w_build2; exact rfl; exact rfl; exact rfl; (first | exact one_val rfl rfl | exact one_ints | exact one_intss | exact one_own rfl True.intro); (first | exact one_val rfl rfl | exact one_ints | exact one_intss | exact one_own rfl True.intro))
  | (apply w_bs0; iterate 1 exact rfl)
  | (apply w_appn; exact rfl; exact rfl; (first | exact .ints _ | exact .sli rfl | exact .orow rfl | exact .nil | exact .osub rfl (by simp; omega)); exact rfl)
  | (apply w_app; exact rfl; exact rfl; exact rfl; exact rfl; (first | exact .ints _ | exact .sli rfl | exact .orow rfl | exact .nil | exact .osub rfl (by simp; omega)); rotate_left 1; simp only [Env.mp, List.map_cons, List.map_nil, List.set_cons_zero, List.set_cons_succ, AV.kill, AV.kill1, AO.kill, AV.noRow, AV.noRow1, AO.via, reduceIte, Nat.reduceEqDiff, Nat.reduceLT, Env.up, Nat.zero_ne_one, Nat.one_ne_zero, Nat.reduceAdd, List.cons_append, List.nil_append]; rotate_left 1)
  | (apply w_alst; iterate 2 exact rfl)
  | (apply w_alone; iterate 3 exact rfl)
  | (apply w_mki; exact rfl; exact rfl; rotate_left 3; exact rfl; rotate_left 1)
  | (apply w_sti; exact rfl; exact rfl; rotate_left 1; exact rfl; rotate_left 2)
  | (apply w_stst; iterate 5 exact rfl)
  | (apply w_stbv; iterate 6 exact rfl)
  | (apply w_stbo; exact rfl; exact rfl; exact rfl; exact rfl; exact rfl; exact True.intro)
  | ((apply AOps.splitB; exact rfl; exact rfl) <;> intro h)
  | apply AllOf.nil
  | (apply AllOf.cons; exact rfl)
  | (apply AAny.take; exact rfl; exact rfl; kernel_rfl; kernel_rfl)
  | (apply AAny.all; exact rfl)
  | (apply AAny.done; exact rfl)
  | (apply inI_of <;> omega)
  | omega
  | (simp <;> omega))
      all_goals first
        | (exfalso; omega)
        | exact ⟨_, _, _, .a2 Try.results88 rfl rfl, .tup2 (.nil 2), by rw [ok1], by rw [ol1]⟩
  · have ej : j = m := by omega
    subst ej
    have aok : CtAll n j a b := fun i hi => by rw [← eS]; exact j1 i hi
    have ok1 : ok = true := by rw [eok, coK, decide_eq_true aok]
    have ol1 : ol = ctL n j a b j := by rw [eol, coL, if_pos aok]
    repeat' (first
  | (apply AOps.nil; try simp only [List.nil_append, List.cons_append, List.set_cons_zero, List.set_cons_succ, List.length_cons, List.length_nil, Nat.reduceAdd, AV.sh, AV.sh1, AV.sh0, AO.sh, List.map_cons, List.map_nil, Nat.zero_add, Nat.add_zero, setAll])
  | ((apply AOps.splitP; exact rfl; exact rfl) <;> intro h)
  | ((apply AOps.splitN; exact rfl; exact rfl) <;> intro h)
  | (apply w_move; exact rfl; exact rfl)
  | (apply w_assign; exact rfl; exact rfl)
  | apply AWp.seq
  | apply AWp.region
  | ((apply AWp.condP; exact rfl) <;> intro h)
  | ((apply AWp.condN; exact rfl) <;> intro h)
  | (apply AWp.condT; exact rfl)
  | (apply AWp.condF; exact rfl)
  | ((apply AWp.condB; exact rfl) <;> intro h)
  | apply AWp.block
  | apply AWp.ret
  | apply AWp.exit
  | apply AWp.skip
  | (apply if_pos'; exact rfl)
  | (apply if_neg'; decide)
  | (apply w_skip; exact rfl)
  | (apply w_pickT; exact rfl; exact rfl; exact rfl)
  | (apply w_pickF; exact rfl; exact rfl; exact rfl)
  | (apply w_len; exact rfl; exact rfl; first | exact .ints _ | exact .intss _ | exact .sli rfl | exact .sls rfl | exact .slr rfl | exact .orow rfl | exact .nil)
  | omega
  | ((first | apply w_lss | apply w_leq | apply w_gtr | apply w_geq | apply w_eql | apply w_neq | apply w_add | apply w_sub | apply w_mul | apply w_idx | apply w_ld | apply w_fld | apply w_fa | apply w_extv | apply w_min | apply w_max | apply w_slhi | apply w_sllo | apply w_bs2); iterate 3 exact rfl)
  | ((first | apply w_eqlb | apply w_neqb | apply w_idxs | apply w_lds | apply w_ext); iterate 3 exact rfl)
  | (apply w_rem; exact rfl; exact rfl; exact rfl; (focus (omega; done)); (focus (omega; done)))
  | (apply w_quo; exact rfl; exact rfl; exact rfl; (focus (omega; done)); (focus (omega; done)))
  | (apply w_remT; exact rfl; exact rfl; exact rfl)
  | (apply w_quoT; exact rfl; exact rfl; exact rfl)
  | ((first | apply w_not | apply w_neg | apply w_conv | apply w_build0 | apply w_bs1 | apply w_boxa); iterate 2 exact rfl)
  | (apply w_idxo; exact rfl; exact rfl; (first | exact .sli rfl | exact .sls rfl | exact .slr rfl); exact rfl)
  | ((first | apply w_idxr | apply w_ldr); iterate 4 exact rfl)
  | (apply w_ldo; iterate 4 exact rfl)
  | (apply w_ldls; iterate 4 exact rfl)
  | (apply w_ldrp; iterate 4 exact rfl)
  | (apply w_ldb; iterate 5 exact rfl)
  | (apply w_ldst; iterate 5 exact rfl)
  | ((first | apply w_sllh | apply w_stbi); iterate 4 exact rfl)
  | ((first | apply w_oslo | apply w_oshi | apply w_stbii); iterate 4 exact rfl)
  | (apply w_build1; exact rfl; exact rfl; (first | exact one_val rfl rfl | exact one_ints | exact one_intss | exact one_own rfl True.intro))
  | (apply w_build2; exact rfl; exact rfl; exact rfl; (first | exact one_val rfl rfl | exact one_ints | exact one_intss | exact one_own rfl True.intro); (first | exact one_val rfl rfl | exact one_ints | exact one_intss | exact one_own rfl True.intro))
  | (apply w_bs0; iterate 1 exact rfl)
  | (apply w_appn; exact rfl; exact rfl; (first | exact .ints _ | exact .sli rfl | exact .orow rfl | exact .nil | exact .osub rfl (by simp; omega)); exact rfl)
  | (apply w_app; exact rfl; exact rfl; exact rfl; exact rfl; (first | exact .ints _ | exact .sli rfl | exact .orow rfl | exact .nil | exact .osub rfl (by simp; omega)); rotate_left 1; simp only [Env.mp, List.map_cons, List.map_nil, List.set_cons_zero, List.set_cons_succ, AV.kill, AV.kill1, AO.kill, AV.noRow, AV.noRow1, AO.via, reduceIte, Nat.reduceEqDiff, Nat.reduceLT, Env.up, Nat.zero_ne_one, Nat.one_ne_zero, Nat.reduceAdd, List.cons_append, List.nil_append]; rotate_left 1)
  | (apply w_alst; iterate 2 exact rfl)
  | (apply w_alone; iterate 3 exact rfl)
  | (apply w_mki; exact rfl; exact rfl; rotate_left 3; exact rfl; rotate_left 1)
  | (apply w_sti; exact rfl; exact rfl; rotate_left 1; exact rfl; rotate_left 2)
  | (apply w_stst; iterate 5 exact rfl)
  | (apply w_stbv; iterate 6 exact rfl)
  | (apply w_stbo; exact rfl; exact rfl; exact rfl; exact rfl; exact rfl; exact True.intro)
  | ((apply AOps.splitB; exact rfl; exact rfl) <;> intro h)
  | apply AllOf.nil
  | (apply AllOf.cons; exact rfl)
  | (apply AAny.take; exact rfl; exact rfl; kernel_rfl; kernel_rfl)
  | (apply AAny.all; exact rfl)
  | (apply AAny.done; exact rfl)
  | (apply inI_of <;> omega)
  | omega
  | (simp <;> omega))
    all_goals exact ⟨_, _, _, .a2 Try.results88 rfl rfl, .tup2 (.sli rfl), by rw [ok1], by rw [ol1]⟩
end Go.Proofs.Ytpbfgmehdhdjdaa
