
/-
  Contracts of the small functions that all seats share. No condition.
-/
import Derived.Test.YtpbfgmehdhdjdaaAmTypes
import Derived.Test.YtpbfgmehdhdjdaaAmStep
namespace Go.Proofs.Ytpbfgmehdhdjdaa
open Go Go.RowKit
attribute [local irreducible] AWp AOps ResIs Ret1 QOp LOp COp AFnV AFn Imms LeE LeO
set_option maxHeartbeats 1000000
set_option linter.unusedSimpArgs false
set_option linter.unusedVariables false

theorem l01In_c (n a b : Int) : AFnV Try.prog 64 [.i n, .i a, .i b] (.bool (decide (a ≤ n ∧ n ≤ b))) := by
  refine AFnV.start Try.func64 Try.ntmps64 rfl (by kernel_rfl) fun hk => ?_
  simp only [Env.start, enumF, List.length_cons, List.length_nil, Nat.reduceAdd, Nat.reduceSub, List.cons_append, List.nil_append]
  repeat' (first
    | (apply AOps.nil; try simp only [List.nil_append, List.cons_append, List.set_cons_zero, List.set_cons_succ, List.length_cons, List.length_nil, Nat.reduceAdd, AV.sh, AV.sh1, AV.sh0, AO.sh, List.map_cons, List.map_nil, Nat.zero_add, Nat.add_zero, setAll])
    | ((apply AOps.splitP; exact rfl; exact rfl) <;> intro h)
    | ((apply AOps.splitN; exact rfl; exact rfl) <;> intro h)
    | (apply w_move; exact rfl; exact rfl)
    | (apply w_assign; exact rfl; exact rfl)
    | apply AWp.seq
    | apply AWp.region
    | ((apply AWp.condP; exact rfl) <;> intro h)
    | ((apply AWp.condN; exact rfl) <;> intro h)
    | (apply AWp.condT; exact rfl)
    | (apply AWp.condF; exact rfl)
    | ((apply AWp.condB; exact rfl) <;> intro h)
    | apply AWp.block
    | apply AWp.ret
    | apply AWp.exit
    | apply AWp.skip
    | (apply AWp.regionQ; kernel_rfl; kernel_rfl)
    | (apply if_pos'; exact rfl)
    | (apply if_neg'; decide)
    | (apply w_skip; exact rfl)
    | (apply w_pickT; exact rfl; exact rfl; exact rfl)
    | (apply w_pickF; exact rfl; exact rfl; exact rfl)
    | (apply w_len; exact rfl; exact rfl; first | exact .ints _ | exact .intss _ | exact .sli rfl | exact .sls rfl | exact .slr rfl | exact .orow rfl | exact .nil)
    | (apply w_lss; exact rfl; exact rfl; exact rfl)
    | (apply w_leq; exact rfl; exact rfl; exact rfl)
    | (apply w_gtr; exact rfl; exact rfl; exact rfl)
    | (apply w_geq; exact rfl; exact rfl; exact rfl)
    | (apply w_eql; exact rfl; exact rfl; exact rfl)
    | (apply w_neq; exact rfl; exact rfl; exact rfl)
    | (apply w_eqlb; exact rfl; exact rfl; exact rfl)
    | (apply w_neqb; exact rfl; exact rfl; exact rfl)
    | (apply w_add; exact rfl; exact rfl; exact rfl)
    | (apply w_sub; exact rfl; exact rfl; exact rfl)
    | (apply w_mul; exact rfl; exact rfl; exact rfl)
    | (apply w_rem; exact rfl; exact rfl; exact rfl; (focus (omega; done)); (focus (omega; done)))
    | (apply w_quo; exact rfl; exact rfl; exact rfl; (focus (omega; done)); (focus (omega; done)))
    | (apply w_remT; exact rfl; exact rfl; exact rfl)
    | (apply w_quoT; exact rfl; exact rfl; exact rfl)
    | (apply w_not; exact rfl; exact rfl)
    | (apply w_neg; exact rfl; exact rfl)
    | (apply w_conv; exact rfl; exact rfl)
    | (apply w_idx; exact rfl; exact rfl; exact rfl)
    | (apply w_idxs; exact rfl; exact rfl; exact rfl)
    | (apply w_ld; exact rfl; exact rfl; exact rfl)
    | (apply w_lds; exact rfl; exact rfl; exact rfl)
    | (apply w_idxo; exact rfl; exact rfl; (first | exact .sli rfl | exact .sls rfl | exact .slr rfl); exact rfl)
    | (apply w_idxr; exact rfl; exact rfl; exact rfl; exact rfl)
    | (apply w_ldo; exact rfl; exact rfl; exact rfl; exact rfl)
    | (apply w_ldr; exact rfl; exact rfl; exact rfl; exact rfl)
    | (apply w_ldls; exact rfl; exact rfl; exact rfl; exact rfl)
    | (apply w_ldrp; exact rfl; exact rfl; exact rfl; exact rfl)
    | (apply w_fld; exact rfl; exact rfl; exact rfl)
    | (apply w_fa; exact rfl; exact rfl; exact rfl)
    | (apply w_ldb; exact rfl; exact rfl; exact rfl; exact rfl; exact rfl)
    | (apply w_ldst; exact rfl; exact rfl; exact rfl; exact rfl; exact rfl)
    | (apply w_extv; exact rfl; exact rfl; exact rfl)
    | (apply w_ext; exact rfl; exact rfl; exact rfl)
    | (apply w_min; exact rfl; exact rfl; exact rfl)
    | (apply w_max; exact rfl; exact rfl; exact rfl)
    | (apply w_slhi; exact rfl; exact rfl; exact rfl)
    | (apply w_sllo; exact rfl; exact rfl; exact rfl)
    | (apply w_sllh; exact rfl; exact rfl; exact rfl; exact rfl)
    | (apply w_oslo; exact rfl; exact rfl; exact rfl; exact rfl)
    | (apply w_oshi; exact rfl; exact rfl; exact rfl; exact rfl)
    | (apply w_copy; exact rfl; (first | exact .own rfl rfl rfl | exact .osub); exact rfl; rotate_left 1; exact rfl; (first | exact .ints _ | exact .sli rfl | exact .orow rfl | exact .nil | exact .osub rfl (by simp; omega)))
    | (apply w_build0; exact rfl; exact rfl)
    | (apply w_build1; exact rfl; exact rfl; (first | exact one_val rfl rfl | exact one_ints | exact one_intss | exact one_own rfl True.intro))
    | (apply w_build2; exact rfl; exact rfl; exact rfl; (first | exact one_val rfl rfl | exact one_ints | exact one_intss | exact one_own rfl True.intro); (first | exact one_val rfl rfl | exact one_ints | exact one_intss | exact one_own rfl True.intro))
    | (apply w_bs0; exact rfl)
    | (apply w_bs1; exact rfl; exact rfl)
    | (apply w_bs2; exact rfl; exact rfl; exact rfl)
    | (apply w_appn; exact rfl; exact rfl; (first | exact .ints _ | exact .sli rfl | exact .orow rfl | exact .nil | exact .osub rfl (by simp; omega)); exact rfl)
    | (apply w_app; exact rfl; exact rfl; exact rfl; exact rfl; (first | exact .ints _ | exact .sli rfl | exact .orow rfl | exact .nil | exact .osub rfl (by simp; omega)); rotate_left 1; simp only [Env.mp, List.map_cons, List.map_nil, List.set_cons_zero, List.set_cons_succ, AV.kill, AV.kill1, AO.kill, AV.noRow, AV.noRow1, AO.via, reduceIte, Nat.reduceEqDiff, Nat.reduceLT, Env.up, Nat.zero_ne_one, Nat.one_ne_zero, Nat.reduceAdd, List.cons_append, List.nil_append]; rotate_left 1)
    | (apply w_boxa; exact rfl; exact rfl)
    | (apply w_alst; exact rfl; exact rfl)
    | (apply w_alone; exact rfl; exact rfl; exact rfl)
    | (apply w_mki; exact rfl; exact rfl; rotate_left 3; exact rfl; rotate_left 1)
    | (apply w_mkr; exact rfl; exact rfl; rotate_left 3; exact rfl; rotate_left 1)
    | (apply w_strow; exact rfl; exact rfl; rotate_left 1; exact rfl; exact rfl; exact rfl; exact rfl; simp only [Env.mp, List.map_cons, List.map_nil, List.set_cons_zero, List.set_cons_succ, AV.kill, AV.kill1, AO.kill, AV.noRow, AV.noRow1, AO.via, reduceIte, Nat.reduceEqDiff, Nat.reduceLT, Env.up, Nat.zero_ne_one, Nat.one_ne_zero, Nat.reduceAdd, List.cons_append, List.nil_append]; rotate_left 1)
    | (apply w_sti; exact rfl; exact rfl; rotate_left 1; exact rfl; rotate_left 2)
    | (apply w_stst; exact rfl; exact rfl; exact rfl; exact rfl; exact rfl)
    | (apply w_stbv; exact rfl; exact rfl; exact rfl; exact rfl; exact rfl; exact rfl)
    | (apply w_stbi; exact rfl; exact rfl; exact rfl; exact rfl)
    | (apply w_stbii; exact rfl; exact rfl; exact rfl; exact rfl)
    | (apply w_stbo; exact rfl; exact rfl; exact rfl; exact rfl; exact rfl; exact True.intro)
    | ((apply AOps.splitB; exact rfl; exact rfl) <;> intro h)
    | apply AllOf.nil
    | (apply AllOf.cons; exact rfl)
    | (apply AAny.take; exact rfl; exact rfl; kernel_rfl; kernel_rfl)
    | (apply AAny.all; exact rfl)
    | (apply AAny.done; exact rfl)
    | (apply inI_of <;> omega)
    | omega
    | (simp <;> omega))
  · exact .bool Try.results64 rfl (by simp [*])
  · exact .bool Try.results64 rfl (by simp [*])

def withinL (xs : List Int) (a b : Int) : Bool := xs.all fun x => decide (a ≤ x ∧ x ≤ b)

theorem withinL_snoc (xs : List Int) (a b : Int) (i : Int) (h0 : 0 ≤ i) (h1 : i < xs.length) : withinL (xs.take (i + 1).toNat) a b = (withinL (xs.take i.toNat) a b && decide (a ≤ geti xs i ∧ geti xs i ≤ b)) := by
  have e : (i + 1).toNat = i.toNat + 1 := by omega
  have hi : i.toNat < xs.length := by omega
  rw [e, List.take_succ_eq_append_getElem hi]
  rw [withinL, List.all_append]
  simp [withinL, geti, hi]
theorem withinL_false (xs : List Int) (a b : Int) (i : Int) (h0 : 0 ≤ i) (h1 : i < xs.length) (h : ¬ (a ≤ geti xs i ∧ geti xs i ≤ b)) : withinL xs a b = false := by
  unfold withinL
  rw [List.all_eq_false]
  exact ⟨geti xs i, geti_mem h0 h1, by simpa using h⟩

theorem withinL_get {xs : List Int} {a b : Int} (h : withinL xs a b = true) (i : Nat) (hi : i < xs.length) : a ≤ geti xs i ∧ geti xs i ≤ b := by
  have := List.all_eq_true.1 h _ (List.getElem_mem hi)
  simpa [geti, hi] using this

end Go.Proofs.Ytpbfgmehdhdjdaa
