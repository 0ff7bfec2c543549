/-
  Parts of the proof, one behind the other: contracts of functions and plain laws. No condition.
-/
import Derived.WalkKit
import Derived.Deep.LoopGhost
import Derived.Deep.Draws
import Derived.Lib.Walk
import Derived.Lib.SliceRun
import Derived.Lib.JoinLaws
import Derived.Lib.AppendZeros
import Derived.Lib.Overlaps
import Derived.Laws.Externs
import Derived.Laws.IdiomCopy
import Derived.Laws.AppendOwn
import Derived.Maps.AppendAt
import Derived.Shelf.RegionOpenPlain
import Derived.Shelf.Spec.SlicesInsert
import Derived.Shelf.Spec.SlicesInsertGrow
import Derived.Lib.LazyBuf
import Derived.Deep.Upon
import Derived.Test.YtkcbihmpjkkccaaPt3FnTorusPolyn
/-
  A copy of a list. No condition but a bound on the size.
-/
namespace Go.Proofs.Ytkcbihmpjkkccaa
open Go Go.RowKit
attribute [local irreducible] AWp AOps ResIs Ret1 QOp LOp COp AFnV AFn Imms LeE LeO
set_option maxHeartbeats 1000000
set_option linter.unusedSimpArgs false
set_option linter.unusedVariables false

theorem l01Own_c (xs : List Int) (h2 : xs.length ≤ 1048576) : AFn Try.prog 42 [.ints xs] (IsInts 2 xs) := by
  (refine AFn.start Try.func42 Try.ntmps42 rfl (by kernel_rfl) fun hk => ?_; simp only [Env.start, enumF, List.length_cons, List.length_nil, Nat.reduceAdd, Nat.reduceSub, List.cons_append, List.nil_append])
  repeat' (first
  | (apply AOps.nil; try simp only [List.nil_append, List.cons_append, List.set_cons_zero, List.set_cons_succ, List.length_cons, List.length_nil, Nat.reduceAdd, AV.sh, AV.sh1, AV.sh0, AO.sh, List.map_cons, List.map_nil, Nat.zero_add, Nat.add_zero, setAll])
  | ((apply AOps.splitP; exact rfl; exact rfl) <;> intro h)
  | ((apply AOps.splitN; exact rfl; exact rfl) <;> intro h)
  | (apply w_move; exact rfl; exact rfl)
  | (apply w_assign; exact rfl; exact rfl)
  | apply AWp.seq
  | apply AWp.region
  | ((apply AWp.condP; exact rfl) <;> intro h)
  | ((apply AWp.condN; exact rfl) <;> intro h)
  | (apply AWp.condT; exact rfl)
  | (apply AWp.condF; exact rfl)
  | ((apply AWp.condB; exact rfl) <;> intro h)
  | apply AWp.block
  | apply AWp.ret
  | apply AWp.exit
  | apply AWp.skip
  | (apply AWp.regionQ; kernel_rfl; kernel_rfl)
  | (apply if_pos'; exact rfl)
  | (apply if_neg'; decide)
  | (apply w_skip; exact rfl)
  | (apply w_pickT; exact rfl; exact rfl; exact rfl)
  | (apply w_pickF; exact rfl; exact rfl; exact rfl)
  | (apply w_len; exact rfl; exact rfl; first | exact .ints _ | exact .intss _ | exact .sli rfl | exact .sls rfl | exact .slr rfl | exact .orow rfl | exact .nil)
  | ((first | apply w_lss | apply w_leq | apply w_gtr | apply w_geq | apply w_eql | apply w_neq | apply w_add | apply w_sub | apply w_mul | apply w_idx | apply w_ld | apply w_fld | apply w_fa | apply w_extv | apply w_min | apply w_max | apply w_slhi | apply w_sllo | apply w_bs2); iterate 3 exact rfl)
  | ((first | apply w_eqlb | apply w_neqb | apply w_idxs | apply w_lds | apply w_ext); iterate 3 exact rfl)
  | (apply w_rem; exact rfl; exact rfl; exact rfl; (focus (omega; done)); (focus (omega; done)))
  | (apply w_quo; exact rfl; exact rfl; exact rfl; (focus (omega; done)); (focus (omega; done)))
  | (apply w_remT; exact rfl; exact rfl; exact rfl)
  | (apply w_quoT; exact rfl; exact rfl; exact rfl)
  | ((first | apply w_not | apply w_neg | apply w_conv | apply w_build0 | apply w_bs1 | apply w_boxa); iterate 2 exact rfl)
  | (apply w_idxo; exact rfl; exact rfl; (first | exact .sli rfl | exact .sls rfl | exact .slr rfl); exact rfl)
  | ((first | apply w_idxr | apply w_ldr); iterate 4 exact rfl)
  | (apply w_ldo; iterate 4 exact rfl)
  | (apply w_ldls; iterate 4 exact rfl)
  | (apply w_ldrp; iterate 4 exact rfl)
  | (apply w_ldb; iterate 5 exact rfl)
  | (apply w_ldst; iterate 5 exact rfl)
  | ((first | apply w_sllh | apply w_stbi); iterate 4 exact rfl)
  | ((first | apply w_oslo | apply w_oshi | apply w_stbii); iterate 4 exact rfl)
  | (apply w_copy; exact rfl; (first | exact .own rfl rfl rfl | exact .osub); exact rfl; rotate_left 1; exact rfl; (first | exact .ints _ | exact .sli rfl | exact .orow rfl | exact .nil | exact .osub rfl (by simp; omega)))
  | (apply w_build1; exact rfl; exact rfl; (first | exact one_val rfl rfl | exact one_ints | exact one_intss | exact one_own rfl True.intro))
  | (apply w_build2; exact rfl; exact rfl; exact rfl; (first | exact one_val rfl rfl | exact one_ints | exact one_intss | exact one_own rfl True.intro); (first | exact one_val rfl rfl | exact one_ints | exact one_intss | exact one_own rfl True.intro))
  | (apply w_bs0; iterate 1 exact rfl)
  | (apply w_appn; exact rfl; exact rfl; (first | exact .ints _ | exact .sli rfl | exact .orow rfl | exact .nil | exact .osub rfl (by simp; omega)); exact rfl)
  | (apply w_app; exact rfl; exact rfl; exact rfl; exact rfl; (first | exact .ints _ | exact .sli rfl | exact .orow rfl | exact .nil | exact .osub rfl (by simp; omega)); rotate_left 1; simp only [Env.mp, List.map_cons, List.map_nil, List.set_cons_zero, List.set_cons_succ, AV.kill, AV.kill1, AO.kill, AV.noRow, AV.noRow1, AO.via, reduceIte, Nat.reduceEqDiff, Nat.reduceLT, Env.up, Nat.zero_ne_one, Nat.one_ne_zero, Nat.reduceAdd, List.cons_append, List.nil_append]; rotate_left 1)
  | (apply w_alst; iterate 2 exact rfl)
  | (apply w_alone; iterate 3 exact rfl)
  | (apply w_mki; exact rfl; exact rfl; rotate_left 3; exact rfl; rotate_left 1)
  | (apply w_mkr; exact rfl; exact rfl; rotate_left 3; exact rfl; rotate_left 1)
  | (apply w_strow; exact rfl; exact rfl; rotate_left 1; exact rfl; exact rfl; exact rfl; exact rfl; simp only [Env.mp, List.map_cons, List.map_nil, List.set_cons_zero, List.set_cons_succ, AV.kill, AV.kill1, AO.kill, AV.noRow, AV.noRow1, AO.via, reduceIte, Nat.reduceEqDiff, Nat.reduceLT, Env.up, Nat.zero_ne_one, Nat.one_ne_zero, Nat.reduceAdd, List.cons_append, List.nil_append]; rotate_left 1)
  | (apply w_sti; exact rfl; exact rfl; rotate_left 1; exact rfl; rotate_left 2)
  | (apply w_stst; iterate 5 exact rfl)
  | (apply w_stbv; iterate 6 exact rfl)
  | (apply w_stbo; exact rfl; exact rfl; exact rfl; exact rfl; exact rfl; exact True.intro)
  | ((apply AOps.splitB; exact rfl; exact rfl) <;> intro h)
  | apply AllOf.nil
  | (apply AllOf.cons; exact rfl)
  | (apply AAny.take; exact rfl; exact rfl; kernel_rfl; kernel_rfl)
  | (apply AAny.all; exact rfl)
  | (apply AAny.done; exact rfl)
  | (apply inI_of <;> omega)
  | omega
  | (simp <;> omega))
  all_goals exact ⟨_, _, _, .v1 Try.results42 rfl, .sli rfl, rfl, rfl⟩
theorem clone_c (xs : List Int) (h1 : 0 < xs.length) (h2 : xs.length ≤ 1048576) : AFn Try.prog 26 [.ints xs] (IsInts 2 xs) := by
  (refine AFn.start Try.func26 Try.ntmps26 rfl (by kernel_rfl) fun hk => ?_; simp only [Env.start, enumF, List.length_cons, List.length_nil, Nat.reduceAdd, Nat.reduceSub, List.cons_append, List.nil_append])
  repeat' (first
  | (apply AOps.nil; try simp only [List.nil_append, List.cons_append, List.set_cons_zero, List.set_cons_succ, List.length_cons, List.length_nil, Nat.reduceAdd, AV.sh, AV.sh1, AV.sh0, AO.sh, List.map_cons, List.map_nil, Nat.zero_add, Nat.add_zero, setAll])
  | ((apply AOps.splitP; exact rfl; exact rfl) <;> intro h)
  | ((apply AOps.splitN; exact rfl; exact rfl) <;> intro h)
  | (apply w_move; exact rfl; exact rfl)
  | (apply w_assign; exact rfl; exact rfl)
  | apply AWp.seq
  | apply AWp.region
  | ((apply AWp.condP; exact rfl) <;> intro h)
  | ((apply AWp.condN; exact rfl) <;> intro h)
  | (apply AWp.condT; exact rfl)
  | (apply AWp.condF; exact rfl)
  | ((apply AWp.condB; exact rfl) <;> intro h)
  | apply AWp.block
  | apply AWp.ret
  | apply AWp.exit
  | apply AWp.skip
  | (apply AWp.regionQ; kernel_rfl; kernel_rfl)
  | (apply if_pos'; exact rfl)
  | (apply if_neg'; decide)
  | (apply w_skip; exact rfl)
  | (apply w_pickT; exact rfl; exact rfl; exact rfl)
  | (apply w_pickF; exact rfl; exact rfl; exact rfl)
  | (apply w_len; exact rfl; exact rfl; first | exact .ints _ | exact .intss _ | exact .sli rfl | exact .sls rfl | exact .slr rfl | exact .orow rfl | exact .nil)
  | ((first | apply w_lenos | apply w_not | apply w_neg | apply w_conv | apply w_build0 | apply w_bs1 | apply w_boxa); iterate 2 exact rfl)
  | (apply w_idxos; iterate 3 exact rfl)
  | ((first | apply w_osubhi | apply w_alone); iterate 3 exact rfl)
  | (apply w_eqnil; iterate 2 exact rfl)
  | ((first | apply w_lss | apply w_leq | apply w_gtr | apply w_geq | apply w_eql | apply w_neq | apply w_add | apply w_sub | apply w_mul | apply w_idx | apply w_ld | apply w_fld | apply w_fa | apply w_extv | apply w_min | apply w_max | apply w_slhi | apply w_sllo | apply w_bs2); iterate 3 exact rfl)
  | ((first | apply w_eqlb | apply w_neqb | apply w_idxs | apply w_lds | apply w_ext); iterate 3 exact rfl)
  | (apply w_rem; exact rfl; exact rfl; exact rfl; (focus (omega; done)); (focus (omega; done)))
  | (apply w_quo; exact rfl; exact rfl; exact rfl; (focus (omega; done)); (focus (omega; done)))
  | (apply w_remT; exact rfl; exact rfl; exact rfl)
  | (apply w_quoT; exact rfl; exact rfl; exact rfl)
  | (apply w_idxo; exact rfl; exact rfl; (first | exact .sli rfl | exact .sls rfl | exact .slr rfl); exact rfl)
  | ((first | apply w_idxr | apply w_ldr); iterate 4 exact rfl)
  | (apply w_ldo; iterate 4 exact rfl)
  | (apply w_ldls; iterate 4 exact rfl)
  | (apply w_ldrp; iterate 4 exact rfl)
  | (apply w_ldb; iterate 5 exact rfl)
  | (apply w_ldst; iterate 5 exact rfl)
  | ((first | apply w_sllh | apply w_stbi); iterate 4 exact rfl)
  | ((first | apply w_oslo | apply w_oshi | apply w_stbii); iterate 4 exact rfl)
  | (apply w_copy; exact rfl; (first | exact .own rfl rfl rfl | exact .osub); exact rfl; rotate_left 1; exact rfl; (first | exact .ints _ | exact .sli rfl | exact .orow rfl | exact .nil | exact .osub rfl (by simp; omega)))
  | (apply w_build1; exact rfl; exact rfl; (first | exact one_val rfl rfl | exact one_ints | exact one_intss | exact one_own rfl True.intro))
  | (apply w_build2; exact rfl; exact rfl; exact rfl; (first | exact one_val rfl rfl | exact one_ints | exact one_intss | exact one_own rfl True.intro); (first | exact one_val rfl rfl | exact one_ints | exact one_intss | exact one_own rfl True.intro))
  | (apply w_bs0; iterate 1 exact rfl)
  | (apply w_appn; exact rfl; exact rfl; (first | exact .ints _ | exact .sli rfl | exact .orow rfl | exact .nil | exact .osub rfl (by simp; omega)); exact rfl)
  | (apply w_app; exact rfl; exact rfl; exact rfl; exact rfl; (first | exact .ints _ | exact .sli rfl | exact .orow rfl | exact .nil | exact .osub rfl (by simp; omega)); rotate_left 1; simp only [Env.mp, List.map_cons, List.map_nil, List.set_cons_zero, List.set_cons_succ, AV.kill, AV.kill1, AO.kill, AV.noRow, AV.noRow1, AO.via, reduceIte, Nat.reduceEqDiff, Nat.reduceLT, Env.up, Nat.zero_ne_one, Nat.one_ne_zero, Nat.reduceAdd, List.cons_append, List.nil_append]; rotate_left 1)
  | (apply w_alst; iterate 2 exact rfl)
  | (apply w_mki; exact rfl; exact rfl; rotate_left 3; exact rfl; rotate_left 1)
  | (apply w_mkr; exact rfl; exact rfl; rotate_left 3; exact rfl; rotate_left 1)
  | (apply w_strow; exact rfl; exact rfl; rotate_left 1; exact rfl; exact rfl; exact rfl; exact rfl; simp only [Env.mp, List.map_cons, List.map_nil, List.set_cons_zero, List.set_cons_succ, AV.kill, AV.kill1, AO.kill, AV.noRow, AV.noRow1, AO.via, reduceIte, Nat.reduceEqDiff, Nat.reduceLT, Env.up, Nat.zero_ne_one, Nat.one_ne_zero, Nat.reduceAdd, List.cons_append, List.nil_append]; rotate_left 1)
  | (apply w_sti; exact rfl; exact rfl; rotate_left 1; exact rfl; rotate_left 2)
  | (apply w_stst; iterate 5 exact rfl)
  | (apply w_stbv; iterate 6 exact rfl)
  | (apply w_stbo; exact rfl; exact rfl; exact rfl; exact rfl; exact rfl; exact True.intro)
  | ((apply AOps.splitB; exact rfl; exact rfl) <;> intro h)
  | apply AllOf.nil
  | (apply AllOf.cons; exact rfl)
  | (apply AAny.take; exact rfl; exact rfl; kernel_rfl; kernel_rfl)
  | (apply AAny.all; exact rfl)
  | (apply AAny.done; exact rfl)
  | (apply inI_of <;> omega)
  | omega
  | (simp <;> omega))
  all_goals exact ⟨_, _, _, .v1 Try.results26 rfl, .sli rfl, rfl, rfl⟩
end Go.Proofs.Ytkcbihmpjkkccaa
/-
  The cyclotomic polynomial in the reference. No condition but bounds.
-/
namespace Go.Proofs.Ytkcbihmpjkkccaa
open Go Go.RowKit
open Cy (prm gpf Upto mob tot Phi Ser Pol)
attribute [local irreducible] AWp AOps ResIs Ret1 QOp LOp COp AFnV AFn Imms LeE LeO
set_option maxHeartbeats 1000000
set_option linter.unusedSimpArgs false
set_option linter.unusedVariables false

theorem wr_zero : wr 0 = 0 := wr_small (by omega)
/-- t ^ p in place of t. -/
def sprI (l : List Int) (p i : Nat) : List Int := tab ((l.length - 1) * p + 1) fun c => if c % p = 0 ∧ c / p < i then geti l ((c / p : Nat) : Int) else 0
theorem sprI_step (l : List Int) {p i : Nat} (hp : 0 < p) (hi : i < l.length) : (sprI l p i).set (i * p) (geti l (i : Nat)) = sprI l p (i + 1) := by
  unfold sprI
  rw [tab_set]
  refine tab_congr fun c _ => ?_
  by_cases e : c = i * p
  · subst e
    rw [if_pos rfl, Nat.mul_mod_left, Nat.mul_div_cancel _ hp, if_pos ⟨rfl, by omega⟩]
  · rw [if_neg e]
    by_cases h : c % p = 0
    · have hne : c / p ≠ i := fun k => e (by rw [← k, Nat.div_mul_cancel (Nat.dvd_of_mod_eq_zero h)])
      by_cases h2 : c / p < i
      · rw [if_pos ⟨h, h2⟩, if_pos ⟨h, by omega⟩]
      · rw [if_neg (fun k => h2 k.2), if_neg (fun k => by have := k.2; omega)]
    · rw [if_neg (fun k => h k.1), if_neg (fun k => h k.1)]
theorem sprI_none (l : List Int) (p : Nat) : List.replicate ((l.length - 1) * p + 1) (0 : Int) = sprI l p 0 := by
  rw [tab_rep]
  exact tab_congr fun c _ => by rw [if_neg (fun h => absurd h.2 (Nat.not_lt_zero _))]
theorem sprI_all {n p : Nat} (f : Ser) (hp : 0 < p) : sprI (tab (n + 1) fun c => wr (f c)) p (n + 1) = tab (n * p + 1) fun c => wr (Cy.sub p f c) := by
  unfold sprI
  rw [tab_len, Nat.add_sub_cancel]
  refine tab_congr fun c hc => ?_
  unfold Cy.sub
  have hlt : c / p < n + 1 := Nat.div_lt_of_lt_mul (by rw [Nat.mul_comm p, Nat.add_mul]; omega)
  by_cases h : c % p = 0
  · rw [if_pos ⟨h, hlt⟩, if_pos h, tab_get _ hlt]
  · rw [if_neg (fun k => h k.1), if_neg h, wr_zero]

set_option maxHeartbeats 8000000 in
theorem l02Spread_c (l : List Int) (p : Nat) (h0 : 0 < l.length) (hp : 0 < p) (hb : (l.length - 1) * p ≤ 100000000) (hl : l.length ≤ 100000000) (hp2 : p ≤ 100000000) (hin : ∀ x ∈ l, inI x) : AFn Try.prog 29 [.ints l, .i p] (IsInts 2 (sprI l p l.length)) := by
  have hN : (((l.length - 1) * p : Nat) : Int) = ((l.length : Int) - 1) * (p : Int) := by rw [Int.natCast_mul]; congr 1; omega
  have hN0 : 0 ≤ ((l.length : Int) - 1) * (p : Int) ∧ ((l.length : Int) - 1) * (p : Int) ≤ 100000000 := by omega
  have hrep : List.replicate (((l.length : Int) - 1) * (p : Int) + 1).toNat (0 : Int) = sprI l p 0 := by
    rw [← sprI_none]; congr 1; omega
  (refine AFn.start Try.func29 Try.ntmps29 rfl (by kernel_rfl) fun hk => ?_; simp only [Env.start, enumF, List.length_cons, List.length_nil, Nat.reduceAdd, Nat.reduceSub, List.cons_append, List.nil_append])
  repeat' (first | (apply AOps.nil; try simp only [List.nil_append, List.cons_append, List.set_cons_zero, List.set_cons_succ, List.length_cons, List.length_nil, Nat.reduceAdd, AV.sh, AV.sh1, AV.sh0, AO.sh, List.map_cons, List.map_nil, Nat.zero_add, Nat.add_zero, setAll]) | (apply w_move; exact rfl; exact rfl) | (apply w_assign; exact rfl; exact rfl) | apply AWp.seq | apply AWp.region | ((apply AWp.condP; exact rfl) <;> intro h) | apply AWp.block | apply AWp.skip | (apply w_len; exact rfl; exact rfl; first | exact .ints _ | exact .intss _ | exact .sli rfl | exact .sls rfl | exact .slr rfl | exact .orow rfl | exact .nil) | omega | ((first | apply w_eql | apply w_add | apply w_sub | apply w_mul); iterate 3 exact rfl) | (apply w_mki; exact rfl; exact rfl; rotate_left 3; exact rfl; rotate_left 1) | (apply inI_of <;> omega))
  refine AWp.loop (ι := Nat) (fun i => ⟨34, [(0, .ints l), (1, .i p), (5, .own 0), (6, .i i)]⟩) (fun i => [.sli 2 (sprI l p i)]) (fun i => i ≤ l.length) (fun i => l.length - i) 0 (by omega) ⟨lee rfl (by (repeat (first | exact le_nil | refine le_eq rfl rfl ?_))), by (repeat (first | exact lo_nil | refine lo_eq (congrArg (AO.sli _) (hrep)) ?_)), rfl, rfl⟩ ?_
  rintro i i0
  have hsl : (sprI l p i).length = (l.length - 1) * p + 1 := tab_len _ _
  by_cases hi : i < l.length
  · have hip : i * p ≤ (l.length - 1) * p := Nat.mul_le_mul_right _ (by omega)
    have hc : ((i * p : Nat) : Int) = (i : Int) * (p : Int) := Int.natCast_mul i p
    have hs : (sprI l p i).set ((i : Int) * (p : Int)).toNat (geti l (i : Nat)) = sprI l p (i + 1) := by
      rw [← hc, Int.toNat_natCast]; exact sprI_step l hp hi
    have hxin : inI (geti l (i : Nat)) := by
      have : geti l (i : Nat) = l[i] := by simp [geti, hi]
      rw [this]; exact hin _ (List.getElem_mem hi)
    repeat' (first | (apply AOps.nil; try simp only [List.nil_append, List.cons_append, List.set_cons_zero, List.set_cons_succ, List.length_cons, List.length_nil, Nat.reduceAdd, AV.sh, AV.sh1, AV.sh0, AO.sh, List.map_cons, List.map_nil, Nat.zero_add, Nat.add_zero, setAll]) | (apply w_move; exact rfl; exact rfl) | (apply w_assign; exact rfl; exact rfl) | apply AWp.seq | apply AWp.region | ((apply AWp.condP; exact rfl) <;> intro h) | apply AWp.block | apply AWp.ret | apply AWp.exit | apply AWp.skip | (apply w_len; exact rfl; exact rfl; first | exact .ints _ | exact .intss _ | exact .sli rfl | exact .sls rfl | exact .slr rfl | exact .orow rfl | exact .nil) | omega | ((first | apply w_lss | apply w_add | apply w_mul | apply w_idx | apply w_ld); iterate 3 exact rfl) | (apply w_idxo; exact rfl; exact rfl; (exact .sli rfl); exact rfl) | (apply w_sti; exact rfl; exact rfl; rotate_left 1; exact rfl; rotate_left 2) | (apply inI_of <;> omega))
    exact ⟨i + 1, hi, by omega, ⟨lee rfl (by (repeat (first | exact le_nil | refine le_eq rfl rfl ?_))), by (repeat (first | exact lo_nil | refine lo_eq (congrArg (AO.sli _) (hs)) ?_)), rfl, rfl⟩⟩
  · have e : i = l.length := by omega
    subst e
    repeat' (first | (apply AOps.nil; try simp only [List.nil_append, List.cons_append, List.set_cons_zero, List.set_cons_succ, List.length_cons, List.length_nil, Nat.reduceAdd, AV.sh, AV.sh1, AV.sh0, AO.sh, List.map_cons, List.map_nil, Nat.zero_add, Nat.add_zero, setAll]) | (apply w_move; exact rfl; exact rfl) | (apply w_assign; exact rfl; exact rfl) | apply AWp.seq | apply AWp.region | ((apply AWp.condP; exact rfl) <;> intro h) | apply AWp.block | apply AWp.ret | apply AWp.exit | apply AWp.skip | (apply w_len; exact rfl; exact rfl; first | exact .ints _ | exact .intss _ | exact .sli rfl | exact .sls rfl | exact .slr rfl | exact .orow rfl | exact .nil) | omega | ((apply w_lss); iterate 3 exact rfl))
    exact ⟨_, _, _, .v1 Try.results29 rfl, .sli rfl, rfl, rfl⟩
/-! ### The quotient -/
def trF (f : Ser) (j : Nat) : Ser := fun n => if n < j then f n else 0
theorem trF_pol (f : Ser) (i : Nat) : Pol i (trF f (i + 1)) := fun n hn => by unfold trF; rw [if_neg (by omega)]
theorem trF_zero (f : Ser) : trF f 0 = Cy.zero := by funext n; unfold trF Cy.zero; rw [if_neg (by omega)]
theorem trF_all {f : Ser} {d j : Nat} (h : Pol d f) (hj : d < j) : trF f j = f := by
  funext n
  unfold trF
  by_cases e : n < j
  · rw [if_pos e]
  · rw [if_neg e, h n (by omega)]
theorem trF_step (f : Ser) (i : Nat) : trF f (i + 1) = Cy.add (trF f i) (Cy.sc (f i) (Cy.sh i Cy.one)) := by
  funext n
  simp only [trF, Cy.add, Cy.sc, Cy.sh, Cy.one]
  by_cases h1 : n < i
  · simp [h1]; omega
  · by_cases h2 : n = i
    · subst h2; simp
    · have h3 : ¬ n < i + 1 := by omega
      have h4 : n - i ≠ 0 := by omega
      simp [h1, h3, h4]
theorem trF_mul (f g : Ser) (i c : Nat) : Cy.mul (trF f (i + 1)) g c = Cy.mul (trF f i) g c + f i * (if c < i then 0 else g (c - i)) := by
  rw [trF_step, Cy.add_mul, Cy.sc_mul, Cy.sh_mul, Cy.one_mul]
  rfl
def rsI (a : Nat) (f g : Ser) (i k : Nat) : List Int := tab (a + 1) fun c => if i ≤ c ∧ c < i + k then wr (Cy.mul (trF f i) g c) else wr (Cy.mul (trF f (i + 1)) g c)
def rsO (a : Nat) (f g : Ser) (j : Nat) : List Int := tab (a + 1) fun c => wr (Cy.mul (trF f j) g c)
def otI (d : Nat) (f : Ser) (j : Nat) : List Int := tab (d + 1) fun c => if j ≤ c then wr (f c) else 0
theorem rsI_none (a : Nat) (f g : Ser) (i : Nat) : rsO a f g (i + 1) = rsI a f g i 0 := tab_congr fun c _ => by rw [if_neg (by omega)]
theorem rsI_all {b : Nat} (a : Nat) (f g : Ser) (i : Nat) (hg : Pol b g) : rsI a f g i (b + 1) = rsO a f g i := tab_congr fun c _ => by
  by_cases h : i ≤ c ∧ c < i + (b + 1)
  · rw [if_pos h]
  · rw [if_neg h, trF_mul]
    by_cases h2 : c < i
    · rw [if_pos h2]; simp
    · rw [if_neg h2, hg (c - i) (by omega)]; simp
theorem rsI_step (a : Nat) (f g : Ser) (i k : Nat) : (rsI a f g i k).set (i + k) (wr (Cy.mul (trF f i) g (i + k))) = rsI a f g i (k + 1) := by
  unfold rsI
  rw [tab_set]
  refine tab_congr fun c _ => ?_
  by_cases e : c = i + k
  · subst e; rw [if_pos rfl, if_pos (by omega)]
  · rw [if_neg e]
    by_cases h : i ≤ c ∧ c < i + k
    · rw [if_pos h, if_pos (by omega)]
    · rw [if_neg h, if_neg (by omega)]
theorem otI_step (d : Nat) (f : Ser) (i : Nat) : (otI d f (i + 1)).set i (wr (f i)) = otI d f i := by
  unfold otI
  rw [tab_set]
  refine tab_congr fun c _ => ?_
  by_cases e : c = i
  · subst e; rw [if_pos rfl, if_pos (by omega)]
  · rw [if_neg e]
    by_cases h : i + 1 ≤ c
    · rw [if_pos h, if_pos (by omega)]
    · rw [if_neg h, if_neg (by omega)]
theorem otI_none (d : Nat) (f : Ser) : List.replicate (d + 1) (0 : Int) = otI d f (d + 1) := by
  rw [tab_rep]; exact tab_congr fun c hc => by rw [if_neg (by omega)]
theorem otI_all (d : Nat) (f : Ser) : otI d f 0 = tab (d + 1) fun c => wr (f c) := tab_congr fun c _ => by rw [if_pos (by omega)]
theorem rsO_zero (a : Nat) (f g : Ser) : rsO a f g 0 = tab (a + 1) fun _ => 0 := tab_congr fun c _ => by rw [trF_zero, Cy.zero_mul]; exact wr_zero
/-- A list, and that there is one. -/
def IsIntsB (T : TypeId) (xs : List Int) (r : AV) (os : List AO) : Prop := r = .tup [.own 0, .b true] ∧ os = [.sli T xs]

set_option maxHeartbeats 16000000 in
theorem l02Quotient_c (f g h : Ser) (a b : Nat) (hm : Cy.mul f g = h) (hg : Pol b g) (g1 : g b = 1) (hf : Pol (a - b) f) (hab : b ≤ a) (ha : a ≤ 1000000) :
    AFn Try.prog 30 [.ints (tab (a + 1) fun c => wr (h c)), .ints (tab (b + 1) fun c => wr (g c))] (IsIntsB 2 (tab (a - b + 1) fun c => wr (f c))) := by
  obtain ⟨P, hP⟩ : ∃ P, P = tab (a + 1) fun c => wr (h c) := ⟨_, rfl⟩
  obtain ⟨Q, hQ⟩ : ∃ Q, Q = tab (b + 1) fun c => wr (g c) := ⟨_, rfl⟩
  have lP : P.length = a + 1 := by rw [hP]; exact tab_len _ _
  have lQ : Q.length = b + 1 := by rw [hQ]; exact tab_len _ _
  obtain ⟨d, hd⟩ : ∃ d, d = a - b := ⟨_, rfl⟩
  have had : a = d + b := by omega
  rw [← hP, ← hQ, ← hd]
  rw [← hd] at hf
  have hown := l01Own_c P (by omega)
  have hr0 : P = rsO a f g (d + 1) := by
    rw [hP, ← hm]
    unfold rsO
    rw [trF_all hf (by omega)]
  have ho0 : List.replicate ((P.length : Int) - (Q.length : Int) + 1).toNat (0 : Int) = otI d f (d + 1) := by
    rw [← otI_none]; congr 1; omega
  (refine AFn.start Try.func30 Try.ntmps30 rfl (by kernel_rfl) fun hk => ?_; simp only [Env.start, enumF, List.length_cons, List.length_nil, Nat.reduceAdd, Nat.reduceSub, List.cons_append, List.nil_append])
  repeat' (first | (apply AOps.nil; try simp only [List.nil_append, List.cons_append, List.set_cons_zero, List.set_cons_succ, List.length_cons, List.length_nil, Nat.reduceAdd, AV.sh, AV.sh1, AV.sh0, AO.sh, List.map_cons, List.map_nil, Nat.zero_add, Nat.add_zero, setAll]) | (apply w_move; exact rfl; exact rfl) | (apply w_assign; exact rfl; exact rfl) | apply AWp.seq | apply AWp.region | ((apply AWp.condP; exact rfl) <;> intro h) | apply AWp.ret | apply AWp.skip | (apply w_len; exact rfl; exact rfl; first | exact .ints _ | exact .intss _ | exact .sli rfl | exact .sls rfl | exact .slr rfl | exact .orow rfl | exact .nil) | omega | ((apply w_lss); iterate 3 exact rfl))
  refine AWp.regionA (by kernel_rfl) (envC := ⟨82, [(0, .ints P), (1, .ints Q), (6, .own 0), (7, .own 1)]⟩) (osC := [.sli 2 P, .sli 2 (List.replicate ((P.length : Int) - (Q.length : Int) + 1).toNat (0 : Int))]) rfl rfl ?_ ?_
  · repeat' (first | (apply AOps.nil; try simp only [List.nil_append, List.cons_append, List.set_cons_zero, List.set_cons_succ, List.length_cons, List.length_nil, Nat.reduceAdd, AV.sh, AV.sh1, AV.sh0, AO.sh, List.map_cons, List.map_nil, Nat.zero_add, Nat.add_zero, setAll]) | (apply w_move; exact rfl; exact rfl) | (apply w_assign; exact rfl; exact rfl) | (apply w_len; exact rfl; exact rfl; first | exact .ints _ | exact .intss _ | exact .sli rfl | exact .sls rfl | exact .slr rfl | exact .orow rfl | exact .nil) | (apply w_callm (hown); (focus ((repeat (first | exact im_nil | refine im_cons rfl (.ints _) ?_)); done)); rintro r os0 ⟨rfl, rfl⟩; try simp only [List.nil_append, List.cons_append, List.set_cons_zero, List.set_cons_succ, List.length_cons, List.length_nil, Nat.reduceAdd, AV.sh, AV.sh1, AV.sh0, AO.sh, List.map_cons, List.map_nil, Nat.zero_add, Nat.add_zero, setAll]) | omega | ((first | apply w_add | apply w_sub); iterate 3 exact rfl) | (apply w_mki; exact rfl; exact rfl; rotate_left 3; exact rfl; rotate_left 1) | apply AllOf.nil | (apply AllOf.cons; exact rfl) | (apply AAny.take; exact rfl; exact rfl; kernel_rfl; kernel_rfl) | (apply AAny.all; exact rfl) | (apply AAny.done; exact rfl) | (apply inI_of <;> omega))
    all_goals (first | (apply Or.inl; refine ⟨lee rfl ?_, ?_, rfl, rfl⟩; (focus ((repeat (first | exact le_nil | refine le_eq rfl rfl ?_)); done)); (focus ((repeat (first | exact lo_nil | refine lo_eq rfl ?_)); done))) | (apply Or.inr; refine ⟨[1, 0], ⟨by decide, fun x hx => Nat.lt_of_lt_of_le ((by decide : ∀ x ∈ ([1, 0] : List Nat), x < 2) x hx) (Nat.le_of_ble_eq_true rfl)⟩, lee rfl ?_, ?_, rfl, rfl⟩; (focus ((repeat (first | exact le_nil | refine le_eq rfl rfl ?_)); done)); (focus ((repeat (first | exact lo_nil | refine lo_eq rfl ?_)); done))))
  have lrep : (List.replicate ((P.length : Int) - (Q.length : Int) + 1).toNat (0 : Int)).length = d + 1 := by rw [ho0]; exact tab_len _ _
  repeat' (first | (apply AOps.nil; try simp only [List.nil_append, List.cons_append, List.set_cons_zero, List.set_cons_succ, List.length_cons, List.length_nil, Nat.reduceAdd, AV.sh, AV.sh1, AV.sh0, AO.sh, List.map_cons, List.map_nil, Nat.zero_add, Nat.add_zero, setAll]) | (apply w_move; exact rfl; exact rfl) | (apply w_assign; exact rfl; exact rfl) | apply AWp.seq | apply AWp.region | apply AWp.block | (apply w_len; exact rfl; exact rfl; first | exact .ints _ | exact .intss _ | exact .sli rfl | exact .sls rfl | exact .slr rfl | exact .orow rfl | exact .nil) | ((apply w_sub); iterate 3 exact rfl) | (apply inI_of <;> omega))
  refine AWp.loop (ι := Nat) (fun j => ⟨82, [(0, .ints P), (1, .ints Q), (6, .own 0), (7, .own 1), (8, .i ((j : Int) - 1))]⟩) (fun j => [.sli 2 (rsO a f g j), .sli 2 (otI d f j)]) (fun j => j ≤ d + 1) (fun j => j) (d + 1) (by omega) ⟨lee rfl (by (repeat (first | exact le_nil | refine le_eq rfl rfl ?_ | refine le_eq rfl (congrArg AV.i (by omega)) ?_))), by (repeat (first | exact lo_nil | refine lo_eq (congrArg (AO.sli _) (hr0)) ?_ | refine lo_eq (congrArg (AO.sli _) (ho0)) ?_)), rfl, rfl⟩ ?_
  rintro j j0
  by_cases hj : 0 < j
  · obtain ⟨i, rfl⟩ : ∃ i, j = i + 1 := ⟨j - 1, by omega⟩
    have ei : (((i + 1 : Nat) : Int) - 1) = (i : Int) := by omega
    rw [ei]
    have l1 : (rsO a f g (i + 1)).length = a + 1 := tab_len _ _
    have l2 : (otI d f (i + 1)).length = d + 1 := tab_len _ _
    have r1 : geti (rsO a f g (i + 1)) ((((i : Int) + (Q.length : Int) - 1).toNat : Nat) : Int) = wr (f i) := by
      rw [show ((i : Int) + (Q.length : Int) - 1).toNat = i + b by omega]
      unfold rsO
      rw [tab_get _ (by omega), (trF_pol f i).lead hg, g1, Int.mul_one]
      unfold trF
      rw [if_pos (by omega)]
    have s1 : (otI d f (i + 1)).set (i : Int).toNat (geti (rsO a f g (i + 1)) ((((i : Int) + (Q.length : Int) - 1).toNat : Nat) : Int)) = otI d f i := by
      rw [r1, Int.toNat_natCast]; exact otI_step d f i
    have hin1 : inI (geti (rsO a f g (i + 1)) ((((i : Int) + (Q.length : Int) - 1).toNat : Nat) : Int)) := by rw [r1]; exact wr_in _
    repeat' (first | (apply AOps.nil; try simp only [List.nil_append, List.cons_append, List.set_cons_zero, List.set_cons_succ, List.length_cons, List.length_nil, Nat.reduceAdd, AV.sh, AV.sh1, AV.sh0, AO.sh, List.map_cons, List.map_nil, Nat.zero_add, Nat.add_zero, setAll]) | (apply w_move; exact rfl; exact rfl) | (apply w_assign; exact rfl; exact rfl) | apply AWp.seq | apply AWp.region | ((apply AWp.condP; exact rfl) <;> intro h) | apply AWp.block | apply AWp.exit | apply AWp.skip | (apply w_len; exact rfl; exact rfl; first | exact .ints _ | exact .intss _ | exact .sli rfl | exact .sls rfl | exact .slr rfl | exact .orow rfl | exact .nil) | omega | ((first | apply w_geq | apply w_add | apply w_sub | apply w_idx | apply w_ld); iterate 3 exact rfl) | (apply w_idxo; exact rfl; exact rfl; (exact .sli rfl); exact rfl) | (apply w_ldo; iterate 4 exact rfl) | (apply w_sti; exact rfl; exact rfl; rotate_left 1; exact rfl; rotate_left 2) | (apply inI_of <;> omega))
    refine AWp.loop (ι := Nat) (fun k => ⟨82, [(0, .ints P), (1, .ints Q), (6, .own 0), (7, .own 1), (8, .i i), (9, .i k)]⟩) (fun k => [.sli 2 (rsI a f g i k), .sli 2 (otI d f i)]) (fun k => k ≤ b + 1) (fun k => b + 1 - k) 0 (by omega) ⟨lee rfl (by (repeat (first | exact le_nil | refine le_eq rfl rfl ?_))), by (repeat (first | exact lo_nil | refine lo_eq (congrArg (AO.sli _) (s1)) ?_ | refine lo_eq (congrArg (AO.sli _) (rsI_none a f g i)) ?_)), rfl, rfl⟩ ?_
    rintro k k0
    have l3 : (rsI a f g i k).length = a + 1 := tab_len _ _
    have l4 : (otI d f i).length = d + 1 := tab_len _ _
    by_cases hk : k < b + 1
    · have q1 : geti (rsI a f g i k) ((((i : Int) + (k : Int)).toNat : Nat) : Int) = wr (Cy.mul (trF f (i + 1)) g (i + k)) := by
        rw [show ((i : Int) + (k : Int)).toNat = i + k by omega]
        unfold rsI
        rw [tab_get _ (by omega), if_neg (by omega)]
      have q2 : geti (otI d f i) (((i : Int).toNat : Nat) : Int) = wr (f i) := by
        rw [Int.toNat_natCast]; unfold otI; rw [tab_get _ (by omega), if_pos (by omega)]
      have q3 : geti Q (k : Nat) = wr (g k) := by rw [hQ, tab_get _ hk]
      have s2 : (rsI a f g i k).set ((i : Int) + (k : Int)).toNat (wr (geti (rsI a f g i k) ((((i : Int) + (k : Int)).toNat : Nat) : Int) - wr (geti (otI d f i) (((i : Int).toNat : Nat) : Int) * geti Q (k : Nat)))) = rsI a f g i (k + 1) := by
        rw [q1, q2, q3, wr_mul, wr_sub, trF_mul, if_neg (by omega), show i + k - i = k by omega, show ((i : Int) + (k : Int)).toNat = i + k by omega, Int.add_sub_cancel]
        exact rsI_step a f g i k
      repeat' (first | (apply AOps.nil; try simp only [List.nil_append, List.cons_append, List.set_cons_zero, List.set_cons_succ, List.length_cons, List.length_nil, Nat.reduceAdd, AV.sh, AV.sh1, AV.sh0, AO.sh, List.map_cons, List.map_nil, Nat.zero_add, Nat.add_zero, setAll]) | (apply w_move; exact rfl; exact rfl) | apply AWp.seq | apply AWp.region | ((apply AWp.condP; exact rfl) <;> intro h) | apply AWp.block | apply AWp.exit | apply AWp.skip | (apply w_len; exact rfl; exact rfl; first | exact .ints _ | exact .intss _ | exact .sli rfl | exact .sls rfl | exact .slr rfl | exact .orow rfl | exact .nil) | omega | ((apply w_lss); iterate 3 exact rfl))
      refine AWp.regionA (by kernel_rfl) (envC := ⟨82, [(0, .ints P), (1, .ints Q), (6, .own 0), (7, .own 1), (8, .i i), (9, .i k)]⟩) (osC := [.sli 2 (rsI a f g i (k + 1)), .sli 2 (otI d f i)]) rfl rfl ?_ ?_
      · rw [← s2]
        repeat' (first | (apply AOps.nil; try simp only [List.nil_append, List.cons_append, List.set_cons_zero, List.set_cons_succ, List.length_cons, List.length_nil, Nat.reduceAdd, AV.sh, AV.sh1, AV.sh0, AO.sh, List.map_cons, List.map_nil, Nat.zero_add, Nat.add_zero, setAll]) | (apply w_move; exact rfl; exact rfl) | ((apply w_mulw (d := 67)); exact rfl; exact rfl; exact rfl) | ((apply w_subw (d := 68)); exact rfl; exact rfl; exact rfl) | exact wr_in _ | omega | ((first | apply w_add | apply w_idx | apply w_ld); iterate 3 exact rfl) | (apply w_idxo; exact rfl; exact rfl; (exact .sli rfl); exact rfl) | (apply w_ldo; iterate 4 exact rfl) | (apply w_sti; exact rfl; exact rfl; rotate_left 1; exact rfl; rotate_left 2) | apply AllOf.nil | (apply AllOf.cons; exact rfl) | (apply AAny.take; exact rfl; exact rfl; kernel_rfl; kernel_rfl) | (apply AAny.all; exact rfl) | (apply AAny.done; exact rfl) | (apply inI_of <;> omega))
        all_goals (apply Or.inl; refine ⟨lee rfl ?_, ?_, rfl, rfl⟩; (focus ((repeat (first | exact le_nil | refine le_eq rfl rfl ?_)); done)); (focus ((repeat (first | exact lo_nil | refine lo_eq rfl ?_)); done)))
      repeat' (first | (apply AOps.nil; try simp only [List.nil_append, List.cons_append, List.set_cons_zero, List.set_cons_succ, List.length_cons, List.length_nil, Nat.reduceAdd, AV.sh, AV.sh1, AV.sh0, AO.sh, List.map_cons, List.map_nil, Nat.zero_add, Nat.add_zero, setAll]) | (apply w_move; exact rfl; exact rfl) | (apply w_assign; exact rfl; exact rfl) | apply AWp.region | ((apply w_add); iterate 3 exact rfl) | (apply inI_of <;> omega))
      exact ⟨k + 1, by omega, by omega, ⟨lee rfl (by (repeat (first | exact le_nil | refine le_eq rfl rfl ?_))), by (repeat (first | exact lo_nil | refine lo_eq rfl ?_)), rfl, rfl⟩⟩
    · have e : k = b + 1 := by omega
      subst e
      have hend := rsI_all a f g i hg
      repeat' (first | (apply AOps.nil; try simp only [List.nil_append, List.cons_append, List.set_cons_zero, List.set_cons_succ, List.length_cons, List.length_nil, Nat.reduceAdd, AV.sh, AV.sh1, AV.sh0, AO.sh, List.map_cons, List.map_nil, Nat.zero_add, Nat.add_zero, setAll]) | (apply w_move; exact rfl; exact rfl) | (apply w_assign; exact rfl; exact rfl) | apply AWp.seq | apply AWp.region | ((apply AWp.condP; exact rfl) <;> intro h) | apply AWp.block | apply AWp.exit | apply AWp.skip | (apply w_len; exact rfl; exact rfl; first | exact .ints _ | exact .intss _ | exact .sli rfl | exact .sls rfl | exact .slr rfl | exact .orow rfl | exact .nil) | omega | ((first | apply w_lss | apply w_sub); iterate 3 exact rfl) | (apply inI_of <;> omega))
      exact ⟨i, by omega, by omega, ⟨lee rfl (by (repeat (first | exact le_nil | refine le_eq rfl rfl ?_))), by (repeat (first | exact lo_nil | refine lo_eq rfl ?_ | refine lo_eq (congrArg (AO.sli _) (hend)) ?_)), rfl, rfl⟩⟩
  · obtain rfl : j = 0 := by omega
    rw [rsO_zero, otI_all]
    repeat' (first | (apply AOps.nil; try simp only [List.nil_append, List.cons_append, List.set_cons_zero, List.set_cons_succ, List.length_cons, List.length_nil, Nat.reduceAdd, AV.sh, AV.sh1, AV.sh0, AO.sh, List.map_cons, List.map_nil, Nat.zero_add, Nat.add_zero, setAll]) | (apply w_move; exact rfl; exact rfl) | (apply w_assign; exact rfl; exact rfl) | apply AWp.seq | apply AWp.region | ((apply AWp.condP; exact rfl) <;> intro h) | apply AWp.block | apply AWp.exit | apply AWp.skip | (apply w_len; exact rfl; exact rfl; first | exact .ints _ | exact .intss _ | exact .sli rfl | exact .sls rfl | exact .slr rfl | exact .orow rfl | exact .nil) | omega | ((apply w_geq); iterate 3 exact rfl))
    refine AWp.loop (ι := Nat) (fun i => ⟨82, [(6, .own 0), (7, .own 1), (10, .i i)]⟩) (fun i => [.sli 2 (tab (a + 1) fun _ => 0), .sli 2 (tab (d + 1) fun c => wr (f c))]) (fun i => i ≤ a + 1) (fun i => a + 1 - i) 0 (by omega) ⟨lee rfl (by (repeat (first | exact le_nil | refine le_eq rfl rfl ?_))), by (repeat (first | exact lo_nil | refine lo_eq rfl ?_)), rfl, rfl⟩ ?_
    rintro i i0
    have l5 : (tab (a + 1) fun _ => (0 : Int)).length = a + 1 := tab_len _ _
    by_cases hi : i < a + 1
    · have z : geti (tab (a + 1) fun _ => (0 : Int)) (((i : Int).toNat : Nat) : Int) = 0 := by rw [Int.toNat_natCast, tab_get _ hi]
      repeat' (first | (apply AOps.nil; try simp only [List.nil_append, List.cons_append, List.set_cons_zero, List.set_cons_succ, List.length_cons, List.length_nil, Nat.reduceAdd, AV.sh, AV.sh1, AV.sh0, AO.sh, List.map_cons, List.map_nil, Nat.zero_add, Nat.add_zero, setAll]) | (apply w_move; exact rfl; exact rfl) | (apply w_assign; exact rfl; exact rfl) | apply AWp.seq | apply AWp.region | ((apply AWp.condP; exact rfl) <;> intro h) | apply AWp.block | apply AWp.ret | apply AWp.exit | apply AWp.skip | (apply w_len; exact rfl; exact rfl; first | exact .ints _ | exact .intss _ | exact .sli rfl | exact .sls rfl | exact .slr rfl | exact .orow rfl | exact .nil) | omega | ((first | apply w_lss | apply w_neq | apply w_add | apply w_idx | apply w_ld); iterate 3 exact rfl) | (apply w_idxo; exact rfl; exact rfl; (exact .sli rfl); exact rfl) | (apply w_ldo; iterate 4 exact rfl) | (apply inI_of <;> omega))
      exact ⟨i + 1, by omega, by omega, ⟨lee rfl (by (repeat (first | exact le_nil | refine le_eq rfl rfl ?_))), by (repeat (first | exact lo_nil | refine lo_eq rfl ?_)), rfl, rfl⟩⟩
    · repeat' (first | (apply AOps.nil; try simp only [List.nil_append, List.cons_append, List.set_cons_zero, List.set_cons_succ, List.length_cons, List.length_nil, Nat.reduceAdd, AV.sh, AV.sh1, AV.sh0, AO.sh, List.map_cons, List.map_nil, Nat.zero_add, Nat.add_zero, setAll]) | (apply w_move; exact rfl; exact rfl) | (apply w_assign; exact rfl; exact rfl) | apply AWp.seq | apply AWp.region | ((apply AWp.condP; exact rfl) <;> intro h) | apply AWp.block | apply AWp.ret | apply AWp.exit | apply AWp.skip | (apply w_len; exact rfl; exact rfl; first | exact .ints _ | exact .intss _ | exact .sli rfl | exact .sls rfl | exact .slr rfl | exact .orow rfl | exact .nil) | omega | ((apply w_lss); iterate 3 exact rfl))
      exact ⟨_, _, _, .a2 Try.results30 rfl rfl, .tup2 (.sli rfl), rfl, rfl⟩
end Go.Proofs.Ytkcbihmpjkkccaa
/-
  A literal slice of one row, as an own slice of rows. No condition.
-/
namespace Go.Proofs.Ytkcbihmpjkkccaa
open Go Go.RowKit
section
variable {P : Program} {env : Env} {os : List AO} {d : Option Tmp} {ty : TypeId} {pos : String} {af : Array Edge} {g : Option (Nat × Bool)}

theorem l_bsr1s {t e e2 : TypeId} {bytes : Nat} [ht : TSlice P t e] [he : TElem P e (.slice none 0 0) bytes] [ht2 : TSlice P e e2] {x : Operand} {k : Nat} {e3 : TypeId} {ys : List Int} (hx : AV.ev env x = .own k) (hk : os[k]? = some (.sli e3 ys)) (he3 : e3 = e2) :
    LOp P ⟨d, .buildSlice t 1 #[(0, x)], ty, pos, af, g⟩ env os (.own os.length) (env.mp (AV.rin k os.length 0)) (((((os ++ [AO.sls e e2 []]).map (AO.via (AV.rin k os.length 0) os.length)).set os.length (.sls e e2 [ys])).set k .dead)) := by
  subst he3
  intro base w gs tm hr
  have hxv := hr.ev x
  rw [hx] at hxv
  generalize hv : Act.eval ⟨tm, []⟩ x = v at hxv
  cases hxv with
  | @own _ gk hgk =>
    obtain ⟨b1, b2, b3⟩ := hr.ho _ _ _ hgk hk
    obtain ⟨ua, uc, eu⟩ := ownsRow_slice b1
    obtain ⟨ii, hi, hs, hz, hby⟩ := he.info
    have hkl : k < os.length := (List.getElem?_eq_some_iff.1 hk).1
    let g0 : Gh := ⟨.slice none 0 0, 0, [], []⟩
    have hr1 : Rel base w (gs ++ [g0]) env (os ++ [.sls e e3 []]) tm := hr.new (Below.refl _ _) _ g0 (fun _ b hb => by simp [g0] at hb) ⟨[], [], [], World.ownsRow_nil w base e 1, rfl, rfl, rfl, fun i u h => (by simp at h), .inl ⟨rfl, rfl⟩, rfl, by simp [g0]⟩
    have hl := hr.hl
    have hgp : (gs ++ [g0])[os.length]? = some g0 := by rw [← hl]; simp
    have hop : (os ++ [AO.sls e e3 []])[os.length]? = some (.sls e e3 []) := by simp
    have hgk' : (gs ++ [g0])[k]? = some gk := by rw [List.getElem?_append_left (by omega)]; exact hgk
    have hok' : (os ++ [AO.sls e e3 []])[k]? = some (.sli e3 ys) := by rw [List.getElem?_append_left hkl]; exact hk
    have hpl : os.length < (gs ++ [g0]).length := by simp; omega
    let w' := w.alloc (.cells [gk.v].toArray e)
    let g' : Gh := ⟨.slice (some ⟨w.heap.size, 0, none⟩) 1 1, w.heap.size, [w.heap.size] ++ gk.bl, [gk.v]⟩
    have hbel : Below w.heap.size w w' := below_alloc w _
    have hblk : ∀ b, b ∈ gk.bl → b < w.heap.size := fun b hb => (hr.hn _ _ _ hgk hk (by simp) b hb).2
    have sv : RowIn os.length k 0 (gs ++ [g0]) ((gs ++ [g0]).set os.length g') := by
      refine ⟨fun j z hj hz => ?_, fun z hz => ⟨g', by rw [List.getElem?_set_self hpl], fun i u hiu => ?_⟩, fun z hz => ⟨g', by rw [List.getElem?_set_self hpl], ?_⟩⟩
      · rw [List.getElem?_set, if_neg (fun e => hj e.symm)]; exact hz
      · rw [hgp] at hz; cases hz; simp [g0] at hiu
      · rw [hgk'] at hz; cases hz; rfl
    refine ⟨.slice (some ⟨w.heap.size, 0, none⟩) 1 1, w', (gs ++ [g0]).set os.length g', .inl ?_, hr1.absorb hgp hop trivial hgk' hok' trivial (by omega) g' (.sls e e3 [ys]) (AV.rin k os.length 0) rfl (fun b hb _ => hbel.block b hb) hbel.size ?_ (fun kp hv => hv.rin kp sv) ?_, ?_, hbel.mono hr.hb⟩
    · simp [execOp, Instr.buildSlice, run_underlying ht.und, sizeOf, typeInfo, zeroValue, hi, hs, hz, Instr.fill, newRow, hv, eu, Value.cells, ar1, w']
    · intro b hb
      have hsz : w'.heap.size = w.heap.size + 1 := by simp [w']
      rcases List.mem_append.1 hb with hb | hb
      · simp at hb
        exact ⟨.inr (.inr (by omega)), by omega⟩
      · have := hblk b hb
        exact ⟨.inr (.inl hb), by omega⟩
    · intro kp
      refine ⟨[gk.v], [gk.bl], [w.heap.size], ⟨rfl, .inr ⟨w.heap.size, 1, _, rfl, hr.hb, heap_alloc_new w _, Nat.le_refl _, by simp [maxLen], by simp, by simp⟩⟩, rfl, rfl, rfl, fun j u hj => ?_, .inr ⟨rfl, rfl⟩, by simp [g'], ?_⟩
      · match j with
        | 0 =>
          simp at hj
          subst hj
          exact ⟨ownsRow_of_block b1 fun c hc => hbel.block c (hblk c (b3.mem hc)), b2, b3.list⟩
        | j + 1 => simp at hj
      · show ([w.heap.size] ++ gk.bl).Nodup
        rw [List.singleton_append, List.nodup_cons]
        exact ⟨fun hc => by have := hblk _ hc; omega, b3.nodup⟩
    · exact RV.own (g := g') (by rw [List.getElem?_set_self hpl])
end
section
variable {P : Program} {env : Env} {os : List AO} {d : Tmp} {ty : TypeId} {pos : String} {af : Array Edge} {l rest : List Oper} {K : APost}
theorem w_bsr1s {t e e2 e3 : TypeId} {bytes : Nat} [TSlice P t e] [TElem P e (.slice none 0 0) bytes] [TSlice P e e2] {x : Operand} {k m : Nat} {ys : List Int} (hx : evo env x = some (.own k)) (hk : os[k]? = some (.sli e3 ys)) (he3 : e3 = e2) (hm : os.length = m)
    (h' : AOps P .seq l rest K (Env.up (env.mp (AV.rin k m 0)) d (.own m)) (((((os ++ [AO.sls e e2 []]).map (AO.via (AV.rin k m 0) m)).set m (.sls e e2 [ys])).set k .dead))) :
    AOps P .seq l (⟨some d, .buildSlice t 1 #[(0, x)], ty, pos, af, none⟩ :: rest) K env os := by
  subst hm
  exact AOps.lo (l_bsr1s (ev_of hx) hk he3) h'
end
section
variable {P : Program} {N : APost} {X : Nat → APost} {Rt : APost} {env : Env} {os : List AO}
/-- A loop whose rounds may number the objects anew. -/
theorem AWp.loopS {c : Code} {ι : Type} (E : ι → Env) (O : ι → List AO) (φ : ι → Prop) (μ : ι → Nat) (x0 : ι) (h0 : φ x0) (f0 : Fit env os (E x0) (O x0))
    (round : ∀ x, φ x → AWp P c (fun env' os' => ∃ y, φ y ∧ μ y < μ x ∧ (Fit env' os' (E y) (O y) ∨ ∃ σ, FitS σ env' os' (E y) (O y))) X Rt (E x) (O x)) : AWp P (.loop c) N X Rt env os := by
  intro base w0 w gs tm hr hb
  obtain ⟨gs0, hr0⟩ := hr.fit f0
  refine wp_loop_ghost (fun n a w' => ∃ x gs', φ x ∧ μ x = n ∧ Rel base w' gs' (E x) (O x) a.tmps ∧ a.defers = [] ∧ Below base w0 w') (μ x0) ⟨x0, gs0, h0, rfl, hr0, rfl, hb⟩ ?_
  rintro n a w1 ⟨x, gs1, hφ, rfl, hr1, hd, hb1⟩
  have ea : a = ⟨a.tmps, []⟩ := by cases a; simp_all
  rw [ea]
  refine wp_mono (round x hφ base w0 w1 gs1 a.tmps hr1 hb1) ?_
  intro e a' w' hq
  cases e with
  | normal =>
    obtain ⟨env', os', gs', r1, r2, r3, y, hy, hlt, hf⟩ := hq
    rcases hf with hf | ⟨σ, hf⟩
    · obtain ⟨gs2, hr2⟩ := r1.fit hf
      exact ⟨μ y, hlt, y, gs2, hy, rfl, hr2, r2, r3⟩
    · obtain ⟨gs2, hr2⟩ := r1.fits hf
      exact ⟨μ y, hlt, y, gs2, hy, rfl, hr2, r2, r3⟩
  | exit j => exact hq
  | ret => exact hq
  | goto l => exact hq
  | panic ch => exact hq
  | outgrown => exact hq
end

end Go.Proofs.Ytkcbihmpjkkccaa
/-
  The cyclotomic polynomial in the reference, whole. No condition but bounds.
-/
namespace Go.Proofs.Ytkcbihmpjkkccaa
open Go Go.RowKit
open Cy (prm gpf Upto mob tot Phi Ser Pol)
attribute [local irreducible] AWp AOps ResIs Ret1 QOp LOp COp AFnV AFn Imms LeE LeO
set_option maxHeartbeats 1000000
set_option linter.unusedSimpArgs false
set_option linter.unusedVariables false

/-- The reference's state: m is done, n is left. -/
structure RcI (n0 n m p : Nat) : Prop where
  pr : m * n = n0
  n1 : 1 ≤ n
  m1 : 1 ≤ m
  p2 : 2 ≤ p
  lo : ∀ q, prm q → q ∣ n → p ≤ q
/-- The first time or not. -/
def Fst (b : Bool) (m p : Nat) : Prop := if b = true then ∀ q, prm q → q ∣ m → q < p else p ∣ m ∧ Upto p m
theorem phi_step {m p : Nat} (hp : prm p) (m1 : 1 ≤ m) (hu : Upto p m) :
    (p ∣ m → sprI (phiW m) p (tot m + 1) = phiW (m * p)) ∧ (¬ p ∣ m → Cy.mul (Phi (m * p)) (Phi m) = Cy.sub p (Phi m) ∧ tot (m * p) = tot m * p - tot m ∧ Pol (tot (m * p)) (Phi (m * p))) := by
  have hp2 := hp.1
  obtain ⟨e1, _⟩ := Cy.e_of hp m1 hu (Cy.ok m m1)
  have ht := Cy.tot_mul hp m1 hu
  constructor
  · intro h
    rw [if_pos h, Cy.mul_one] at e1
    rw [if_pos h] at ht
    unfold phiW
    rw [sprI_all _ (by omega), e1, ht, Nat.mul_comm p]
  · intro h
    rw [if_neg h] at e1 ht
    refine ⟨e1, ?_, (Cy.phi_deg (m * p) (Nat.mul_pos m1 (by omega))).1⟩
    rw [ht, Nat.sub_mul, Nat.one_mul, Nat.mul_comm]

set_option maxHeartbeats 16000000 in
theorem l02Cyclotomic_c (n0 : Nat) (h1 : 1 ≤ n0) (h2 : n0 ≤ 1000000) : AFn Try.prog 21 [.i n0] (IsInts 2 (phiW n0)) := by
  have hone : [(-1 : Int), 1] = phiW 1 := phiW_one.symm
  (refine AFn.start Try.func21 Try.ntmps21 rfl (by kernel_rfl) fun hk => ?_; simp only [Env.start, enumF, List.length_cons, List.length_nil, Nat.reduceAdd, Nat.reduceSub, List.cons_append, List.nil_append])
  repeat' (first | (apply AOps.nil; try simp only [List.nil_append, List.cons_append, List.set_cons_zero, List.set_cons_succ, List.length_cons, List.length_nil, Nat.reduceAdd, AV.sh, AV.sh1, AV.sh0, AO.sh, List.map_cons, List.map_nil, Nat.zero_add, Nat.add_zero, setAll]) | (apply w_assign; exact rfl; exact rfl) | apply AWp.seq | apply AWp.region | apply AWp.block | ((apply w_bs2); iterate 3 exact rfl) | (apply inI_of <;> omega))
  refine AWp.loop (ι := Nat × Nat × Nat) (fun s => ⟨31, [(0, .i s.1), (3, .own 0), (4, .i s.2.2)]⟩) (fun s => [.sli 2 (phiW s.2.1)]) (fun s => RcI n0 s.1 s.2.1 s.2.2 ∧ ∀ q, prm q → q ∣ s.2.1 → q < s.2.2) (fun s => s.1 + 1 - s.2.2) (n0, 1, 2) ⟨⟨by simp, h1, by simp, by simp, fun q hq _ => hq.1⟩, fun q hq hd => by have := Nat.le_of_dvd (by simp) hd; have := hq.1; simp only at *; omega⟩ ⟨lee rfl (by (repeat (first | exact le_nil | refine le_eq rfl rfl ?_))), by (repeat (first | exact lo_nil | refine lo_eq (congrArg (AO.sli _) (hone)) ?_)), rfl, rfl⟩ ?_
  rintro ⟨n, m, p⟩ ⟨hI, hlt⟩
  simp only at hI hlt
  have hn1 := hI.n1
  have hm1 := hI.m1
  have hp2 := hI.p2
  have hnn : n ≤ n0 := by rw [← hI.pr]; exact Nat.le_mul_of_pos_left _ hm1
  by_cases hn : 1 < n
  · have hpn : p ≤ n := by
      obtain ⟨q, hq, hd⟩ := Cy.prm_ex n hn
      have := hI.lo q hq hd
      have := Nat.le_of_dvd (by omega) hd
      omega
    repeat' (first | (apply AOps.nil; try simp only [List.nil_append, List.cons_append, List.set_cons_zero, List.set_cons_succ, List.length_cons, List.length_nil, Nat.reduceAdd, AV.sh, AV.sh1, AV.sh0, AO.sh, List.map_cons, List.map_nil, Nat.zero_add, Nat.add_zero, setAll]) | (apply w_move; exact rfl; exact rfl) | (apply w_assign; exact rfl; exact rfl) | apply AWp.seq | apply AWp.region | ((apply AWp.condP; exact rfl) <;> intro h) | apply AWp.block | apply AWp.ret | apply AWp.exit | apply AWp.skip | omega | ((apply w_gtr); iterate 3 exact rfl))
    refine AWp.loopS (ι := Nat × Nat × Bool) (fun s => ⟨31, [(0, .i s.1), (3, .own 0), (4, .i p), (5, .b s.2.2)]⟩) (fun s => [.sli 2 (phiW s.2.1)]) (fun s => RcI n0 s.1 s.2.1 p ∧ Fst s.2.2 s.2.1 p ∧ s.1 ≤ n) (fun s => s.1) (n, m, true) ⟨hI, by unfold Fst; rw [if_pos rfl]; exact hlt, Nat.le_refl _⟩ ⟨lee rfl (by (repeat (first | exact le_nil | refine le_eq rfl rfl ?_))), by (repeat (first | exact lo_nil | refine lo_eq rfl ?_)), rfl, rfl⟩ ?_
    rintro ⟨n', m', b⟩ ⟨hI', hF, hle⟩
    simp only at hI' hF hle
    have hn1' := hI'.n1
    have hm1' := hI'.m1
    have hc1 : ((n' % p : Nat) : Int) = (n' : Int) % (p : Int) := Int.natCast_emod n' p
    have hc2 : ((n' / p : Nat) : Int) = (n' : Int) / (p : Int) := Int.natCast_ediv n' p
    have hlt' : n' / p < n' := Nat.div_lt_self (by omega) (by omega)
    have hq0 : 0 ≤ (n' : Int) / (p : Int) ∧ (n' : Int) / (p : Int) ≤ n' := ⟨Int.ediv_nonneg (by omega) (by omega), Int.ediv_le_self _ (by omega)⟩
    by_cases hd : n' % p = 0
    · have hdv := Nat.dvd_of_mod_eq_zero hd
      have hp : prm p := least_prm hp2 hI'.lo hdv
      have hu : Upto p m' := by
        unfold Fst at hF
        split at hF
        · exact fun q hq hqd => by have := hF q hq hqd; omega
        · exact hF.2
      have hq1 : 1 ≤ n' / p := Nat.div_pos (Nat.le_of_dvd (by omega) hdv) (by omega)
      have hnp : n' / p * p = n' := Nat.div_mul_cancel hdv
      have tp := tot_pos (n := m') (by omega)
      have hmp : m' * p ≤ n0 := by
        rw [← hI'.pr, ← hnp, Nat.mul_comm (n' / p), ← Nat.mul_assoc]
        exact Nat.le_mul_of_pos_right _ hq1
      have htp : tot m' * p ≤ 1000000 := by have := Nat.mul_le_mul_right p tp.2; omega
      have hmle : m' ≤ 1000000 := by have := Nat.le_mul_of_pos_right m' (show 0 < p by omega); omega
      have lW : (phiW m').length = tot m' + 1 := tab_len _ _
      have hsp := l02Spread_c (phiW m') p (by omega) (by omega) (by rw [lW, Nat.add_sub_cancel]; omega) (by omega) (by omega) (fun x hx => by
        unfold phiW tab at hx
        obtain ⟨c, _, rfl⟩ := List.mem_map.1 hx
        exact wr_in _)
      rw [lW] at hsp
      have hIn : RcI n0 (n' / p) (m' * p) p := ⟨by rw [← hI'.pr, Nat.mul_assoc, Nat.mul_comm p, hnp], hq1, Nat.mul_pos hm1' (by omega), hp2, fun q hq hqd => hI'.lo q hq (Nat.dvd_trans hqd ⟨p, hnp.symm⟩)⟩
      have hFn : Fst false (m' * p) p := by
        unfold Fst
        rw [if_neg (by simp)]
        exact ⟨⟨m', Nat.mul_comm _ _⟩, fun q hq hqd => by
          rcases Cy.prm_mul hq hqd with k | k
          · exact hu q hq k
          · have := Cy.prm_dvd hq hp k; omega⟩
      obtain ⟨st1, st2⟩ := phi_step hp hm1' hu
      cases b with
      | true =>
        have hnd : ¬ p ∣ m' := fun h => by
          unfold Fst at hF
          rw [if_pos rfl] at hF
          have := hF p hp h
          omega
        obtain ⟨u1, u2, u3⟩ := st2 hnd
        rw [u2] at u3
        have hge : tot m' ≤ tot m' * p := Nat.le_mul_of_pos_right _ (by omega)
        have hph := Cy.phi_deg m' hm1'
        have hqt := l02Quotient_c (Phi (m' * p)) (Phi m') (Cy.sub p (Phi m')) (tot m' * p) (tot m') u1 hph.1 hph.2.1 u3 hge htp
        have hspr : sprI (phiW m') p (tot m' + 1) = tab (tot m' * p + 1) fun c => wr (Cy.sub p (Phi m') c) := by unfold phiW; exact sprI_all _ (by omega)
        rw [hspr] at hsp
        have hphW : phiW m' = tab (tot m' + 1) fun c => wr (Phi m' c) := rfl
        rw [← hphW] at hqt
        have hres : tab (tot m' * p - tot m' + 1) (fun c => wr (Phi (m' * p) c)) = phiW (m' * p) := by unfold phiW; rw [u2]
        rw [hres] at hqt
        repeat' (first | (apply AOps.nil; try simp only [List.nil_append, List.cons_append, List.set_cons_zero, List.set_cons_succ, List.length_cons, List.length_nil, Nat.reduceAdd, AV.sh, AV.sh1, AV.sh0, AO.sh, List.map_cons, List.map_nil, Nat.zero_add, Nat.add_zero, setAll]) | (apply w_move; exact rfl; exact rfl) | (apply w_assign; exact rfl; exact rfl) | apply AWp.seq | apply AWp.region | ((apply AWp.condP; exact rfl) <;> intro h) | (apply AWp.condT; exact rfl) | apply AWp.block | apply AWp.exit | apply AWp.skip | (apply w_callm (hsp); (focus ((repeat (first | exact im_nil | refine im_cons rfl (.val _) ?_ | refine im_cons rfl (.sli rfl) ?_)); done)); rintro r os0 ⟨rfl, rfl⟩; try simp only [List.nil_append, List.cons_append, List.set_cons_zero, List.set_cons_succ, List.length_cons, List.length_nil, Nat.reduceAdd, AV.sh, AV.sh1, AV.sh0, AO.sh, List.map_cons, List.map_nil, Nat.zero_add, Nat.add_zero, setAll]) | (apply w_callm (hqt); (focus ((repeat (first | exact im_nil | refine im_cons rfl (.sli rfl) ?_)); done)); rintro r os0 ⟨rfl, rfl⟩; try simp only [List.nil_append, List.cons_append, List.set_cons_zero, List.set_cons_succ, List.length_cons, List.length_nil, Nat.reduceAdd, AV.sh, AV.sh1, AV.sh0, AO.sh, List.map_cons, List.map_nil, Nat.zero_add, Nat.add_zero, setAll]) | omega | ((first | apply w_eql | apply w_extv); iterate 3 exact rfl) | ((apply w_ext); iterate 3 exact rfl) | (apply w_rem; exact rfl; exact rfl; exact rfl; (focus (omega; done)); (focus (omega; done))) | (apply w_quo; exact rfl; exact rfl; exact rfl; (focus (omega; done)); (focus (omega; done))) | (apply inI_of <;> omega))
        refine ⟨(n' / p, m' * p, false), ⟨hIn, hFn, by simp only; omega⟩, by simp only; omega, ?_⟩
        simp only [hc2]
        (apply Or.inr; refine ⟨[2], ⟨by decide, fun x hx => Nat.lt_of_lt_of_le ((by decide : ∀ x ∈ ([2] : List Nat), x < 3) x hx) (Nat.le_of_ble_eq_true rfl)⟩, lee rfl ?_, ?_, rfl, rfl⟩; (focus ((repeat (first | exact le_nil | refine le_eq rfl rfl ?_)); done)); (focus ((repeat (first | exact lo_nil | refine lo_eq rfl ?_)); done)))
      | false =>
        have hd2 : p ∣ m' := by
          unfold Fst at hF
          rw [if_neg (by simp)] at hF
          exact hF.1
        rw [st1 hd2] at hsp
        repeat' (first | (apply AOps.nil; try simp only [List.nil_append, List.cons_append, List.set_cons_zero, List.set_cons_succ, List.length_cons, List.length_nil, Nat.reduceAdd, AV.sh, AV.sh1, AV.sh0, AO.sh, List.map_cons, List.map_nil, Nat.zero_add, Nat.add_zero, setAll]) | (apply w_move; exact rfl; exact rfl) | (apply w_assign; exact rfl; exact rfl) | apply AWp.seq | apply AWp.region | ((apply AWp.condP; exact rfl) <;> intro h) | (apply AWp.condF; exact rfl) | apply AWp.block | apply AWp.exit | apply AWp.skip | (apply w_callm (hsp); (focus ((repeat (first | exact im_nil | refine im_cons rfl (.val _) ?_ | refine im_cons rfl (.sli rfl) ?_)); done)); rintro r os0 ⟨rfl, rfl⟩; try simp only [List.nil_append, List.cons_append, List.set_cons_zero, List.set_cons_succ, List.length_cons, List.length_nil, Nat.reduceAdd, AV.sh, AV.sh1, AV.sh0, AO.sh, List.map_cons, List.map_nil, Nat.zero_add, Nat.add_zero, setAll]) | omega | ((apply w_eql); iterate 3 exact rfl) | (apply w_rem; exact rfl; exact rfl; exact rfl; (focus (omega; done)); (focus (omega; done))) | (apply w_quo; exact rfl; exact rfl; exact rfl; (focus (omega; done)); (focus (omega; done))) | (apply inI_of <;> omega))
        refine ⟨(n' / p, m' * p, false), ⟨hIn, hFn, by simp only; omega⟩, by simp only; omega, ?_⟩
        simp only [hc2]
        (apply Or.inr; refine ⟨[1], ⟨by decide, fun x hx => Nat.lt_of_lt_of_le ((by decide : ∀ x ∈ ([1] : List Nat), x < 2) x hx) (Nat.le_of_ble_eq_true rfl)⟩, lee rfl ?_, ?_, rfl, rfl⟩; (focus ((repeat (first | exact le_nil | refine le_eq rfl rfl ?_)); done)); (focus ((repeat (first | exact lo_nil | refine lo_eq rfl ?_)); done)))
    · have hIx : RcI n0 n' m' (p + 1) := ⟨hI'.pr, hn1', hm1', by omega, fun q hq hqd => by
        have := hI'.lo q hq hqd
        have : q ≠ p := fun e => hd (by subst e; exact Nat.mod_eq_zero_of_dvd hqd)
        omega⟩
      have hFx : ∀ q, prm q → q ∣ m' → q < p + 1 := fun q hq hqd => by
        unfold Fst at hF
        split at hF
        · have := hF q hq hqd; omega
        · have := hF.2 q hq hqd; omega
      repeat' (first | (apply AOps.nil; try simp only [List.nil_append, List.cons_append, List.set_cons_zero, List.set_cons_succ, List.length_cons, List.length_nil, Nat.reduceAdd, AV.sh, AV.sh1, AV.sh0, AO.sh, List.map_cons, List.map_nil, Nat.zero_add, Nat.add_zero, setAll]) | (apply w_move; exact rfl; exact rfl) | (apply w_assign; exact rfl; exact rfl) | apply AWp.seq | apply AWp.region | ((apply AWp.condP; exact rfl) <;> intro h) | apply AWp.block | apply AWp.exit | apply AWp.skip | omega | ((first | apply w_eql | apply w_add); iterate 3 exact rfl) | (apply w_rem; exact rfl; exact rfl; exact rfl; (focus (omega; done)); (focus (omega; done))) | (apply inI_of <;> omega))
      exact ⟨(n', m', p + 1), ⟨hIx, hFx⟩, by simp only; omega, ⟨lee rfl (by (repeat (first | exact le_nil | refine le_eq rfl rfl ?_))), by (repeat (first | exact lo_nil | refine lo_eq rfl ?_)), rfl, rfl⟩⟩
  · have e : n = 1 := by omega
    subst e
    have e2 : m = n0 := by have := hI.pr; omega
    subst e2
    repeat' (first | (apply AOps.nil; try simp only [List.nil_append, List.cons_append, List.set_cons_zero, List.set_cons_succ, List.length_cons, List.length_nil, Nat.reduceAdd, AV.sh, AV.sh1, AV.sh0, AO.sh, List.map_cons, List.map_nil, Nat.zero_add, Nat.add_zero, setAll]) | (apply w_move; exact rfl; exact rfl) | (apply w_assign; exact rfl; exact rfl) | apply AWp.seq | apply AWp.region | ((apply AWp.condP; exact rfl) <;> intro h) | apply AWp.block | apply AWp.ret | apply AWp.exit | apply AWp.skip | omega | ((apply w_gtr); iterate 3 exact rfl))
    exact ⟨_, _, _, .v1 Try.results21 rfl, .sli rfl, rfl, rfl⟩
end Go.Proofs.Ytkcbihmpjkkccaa
/-
  Products of polynomials that may wrap, in the program and in the reference; what a polynomial is. No condition but bounds.
-/
namespace Go.Proofs.Ytkcbihmpjkkccaa
open Go Go.RowKit
open Cy (Ser Pol)
attribute [local irreducible] AWp AOps ResIs Ret1 QOp LOp COp AFnV AFn Imms LeE LeO
set_option maxHeartbeats 1000000
set_option linter.unusedSimpArgs false
set_option linter.unusedVariables false

def ser (l : List Int) : Ser := fun k => geti l (k : Nat)
theorem ser_out {l : List Int} {k : Nat} (h : l.length ≤ k) : ser l k = 0 := by simp [ser, geti, List.getElem?_eq_none h]
def pmO (p q : List Int) (k : Nat) : List Int := tab (p.length + q.length - 1) fun c => wr (Cy.mul (trF (ser q) k) (ser p) c)
def pmI (p q : List Int) (k i : Nat) : List Int := tab (p.length + q.length - 1) fun c => if k ≤ c ∧ c < k + i then wr (Cy.mul (trF (ser q) (k + 1)) (ser p) c) else wr (Cy.mul (trF (ser q) k) (ser p) c)
/-- The product, as int64 holds it. -/
def pm (p q : List Int) : List Int := tab (p.length + q.length - 1) fun c => wr (Cy.mul (ser q) (ser p) c)
theorem pmO_zero (p q : List Int) : List.replicate (p.length + q.length - 1) (0 : Int) = pmO p q 0 := by
  rw [tab_rep]; exact tab_congr fun c _ => by rw [trF_zero, Cy.zero_mul]; exact wr_zero.symm
theorem pmO_all (p q : List Int) : pmO p q q.length = pm p q := tab_congr fun c _ => by
  have : trF (ser q) q.length = ser q := by
    funext n
    unfold trF
    by_cases h : n < q.length
    · rw [if_pos h]
    · rw [if_neg h, ser_out (by omega)]
  rw [this]
theorem pmI_none (p q : List Int) (k : Nat) : pmO p q k = pmI p q k 0 := tab_congr fun c _ => by rw [if_neg (by omega)]
theorem pmI_all (p q : List Int) (k : Nat) : pmI p q k p.length = pmO p q (k + 1) := tab_congr fun c _ => by
  by_cases h : k ≤ c ∧ c < k + p.length
  · rw [if_pos h]
  · rw [if_neg h, trF_mul]
    by_cases h2 : c < k
    · rw [if_pos h2]; simp
    · rw [if_neg h2, ser_out (l := p) (by omega)]; simp
theorem pmO_skip (p q : List Int) (k : Nat) (h : geti q (k : Nat) = 0) : pmO p q (k + 1) = pmO p q k := tab_congr fun c _ => by
  have : ser q k = 0 := h
  rw [trF_mul, this]; simp
theorem pmI_step (p q : List Int) (k i : Nat) : (pmI p q k i).set (k + i) (wr (Cy.mul (trF (ser q) (k + 1)) (ser p) (k + i))) = pmI p q k (i + 1) := by
  unfold pmI
  rw [tab_set]
  refine tab_congr fun c _ => ?_
  by_cases e : c = k + i
  · subst e; rw [if_pos rfl, if_pos (by omega)]
  · rw [if_neg e]
    by_cases h : k ≤ c ∧ c < k + i
    · rw [if_pos h, if_pos (by omega)]
    · rw [if_neg h, if_neg (by omega)]
theorem pm_val (p q : List Int) (k i : Nat) : wr (wr (Cy.mul (trF (ser q) k) (ser p) (k + i)) + wr (geti p (i : Nat) * geti q (k : Nat))) = wr (Cy.mul (trF (ser q) (k + 1)) (ser p) (k + i)) := by
  rw [wr_add, trF_mul, if_neg (by omega), show k + i - k = i by omega]
  congr 1
  rw [Int.mul_comm]
  rfl

set_option maxHeartbeats 8000000 in
theorem plainProduct_c (p q : List Int) (hp : 1 ≤ p.length ∧ p.length ≤ 10000000) (hq : 1 ≤ q.length ∧ q.length ≤ 10000000) : AFn Try.prog 17 [.ints p, .ints q] (IsInts 2 (pm p q)) := by
  have hz : List.replicate ((p.length : Int) + (q.length : Int) - 1).toNat (0 : Int) = pmO p q 0 := by rw [← pmO_zero]; congr 1; omega
  (refine AFn.start Try.func17 Try.ntmps17 rfl (by kernel_rfl) fun hk => ?_; simp only [Env.start, enumF, List.length_cons, List.length_nil, Nat.reduceAdd, Nat.reduceSub, List.cons_append, List.nil_append])
  repeat' (first | (apply AOps.nil; try simp only [List.nil_append, List.cons_append, List.set_cons_zero, List.set_cons_succ, List.length_cons, List.length_nil, Nat.reduceAdd, AV.sh, AV.sh1, AV.sh0, AO.sh, List.map_cons, List.map_nil, Nat.zero_add, Nat.add_zero, setAll]) | (apply w_move; exact rfl; exact rfl) | (apply w_assign; exact rfl; exact rfl) | apply AWp.seq | apply AWp.region | apply AWp.block | (apply w_len; exact rfl; exact rfl; first | exact .ints _ | exact .intss _ | exact .sli rfl | exact .sls rfl | exact .slr rfl | exact .orow rfl | exact .nil) | omega | ((first | apply w_add | apply w_sub); iterate 3 exact rfl) | (apply w_mki; exact rfl; exact rfl; rotate_left 3; exact rfl; rotate_left 1) | (apply inI_of <;> omega))
  refine AWp.loop (ι := Nat) (fun k => ⟨47, [(0, .ints p), (5, .own 0), (17, .ints q), (18, .i q.length), (19, .i k)]⟩) (fun k => [.sli 2 (pmO p q k)]) (fun k => k ≤ q.length) (fun k => q.length - k) 0 (by omega) ⟨lee rfl (by (repeat (first | exact le_nil | refine le_eq rfl rfl ?_))), by (repeat (first | exact lo_nil | refine lo_eq (congrArg (AO.sli _) (hz)) ?_)), rfl, rfl⟩ ?_
  rintro k k0
  by_cases hk : k < q.length
  · by_cases h0 : geti q (k : Nat) = 0
    · have hs := pmO_skip p q k h0
      repeat' (first | (apply AOps.nil; try simp only [List.nil_append, List.cons_append, List.set_cons_zero, List.set_cons_succ, List.length_cons, List.length_nil, Nat.reduceAdd, AV.sh, AV.sh1, AV.sh0, AO.sh, List.map_cons, List.map_nil, Nat.zero_add, Nat.add_zero, setAll]) | (apply w_move; exact rfl; exact rfl) | (apply w_assign; exact rfl; exact rfl) | apply AWp.seq | apply AWp.region | ((apply AWp.condP; exact rfl) <;> intro h) | apply AWp.block | apply AWp.ret | apply AWp.exit | apply AWp.skip | (apply w_len; exact rfl; exact rfl; first | exact .ints _ | exact .intss _ | exact .sli rfl | exact .sls rfl | exact .slr rfl | exact .orow rfl | exact .nil) | omega | ((first | apply w_lss | apply w_eql | apply w_add | apply w_idx | apply w_ld); iterate 3 exact rfl) | (apply inI_of <;> omega))
      exact ⟨k + 1, by omega, by omega, ⟨lee rfl (by (repeat (first | exact le_nil | refine le_eq rfl rfl ?_))), by (repeat (first | exact lo_nil | refine lo_eq (congrArg (AO.sli _) (hs.symm)) ?_)), rfl, rfl⟩⟩
    · repeat' (first | (apply AOps.nil; try simp only [List.nil_append, List.cons_append, List.set_cons_zero, List.set_cons_succ, List.length_cons, List.length_nil, Nat.reduceAdd, AV.sh, AV.sh1, AV.sh0, AO.sh, List.map_cons, List.map_nil, Nat.zero_add, Nat.add_zero, setAll]) | (apply w_move; exact rfl; exact rfl) | (apply w_assign; exact rfl; exact rfl) | apply AWp.seq | apply AWp.region | ((apply AWp.condP; exact rfl) <;> intro h) | apply AWp.block | apply AWp.ret | apply AWp.exit | apply AWp.skip | (apply w_len; exact rfl; exact rfl; first | exact .ints _ | exact .intss _ | exact .sli rfl | exact .sls rfl | exact .slr rfl | exact .orow rfl | exact .nil) | omega | ((first | apply w_lss | apply w_eql | apply w_idx | apply w_ld); iterate 3 exact rfl))
      refine AWp.loop (ι := Nat) (fun i => ⟨47, [(0, .ints p), (5, .own 0), (6, .i k), (7, .i (geti q (k : Nat))), (17, .ints q), (18, .i q.length), (19, .i k), (26, .ints p), (27, .i p.length), (28, .i i)]⟩) (fun i => [.sli 2 (pmI p q k i)]) (fun i => i ≤ p.length) (fun i => p.length - i) 0 (by omega) ⟨lee rfl (by (repeat (first | exact le_nil | refine le_eq rfl rfl ?_))), by (repeat (first | exact lo_nil | refine lo_eq (congrArg (AO.sli _) (pmI_none p q k)) ?_)), rfl, rfl⟩ ?_
      rintro i i0
      have hl : (pmI p q k i).length = p.length + q.length - 1 := tab_len _ _
      by_cases hi : i < p.length
      · have r1 : geti (pmI p q k i) ((((i : Int) + (k : Int)).toNat : Nat) : Int) = wr (Cy.mul (trF (ser q) k) (ser p) (k + i)) := by
          rw [show ((i : Int) + (k : Int)).toNat = k + i by omega]
          unfold pmI
          rw [tab_get _ (by omega), if_neg (by omega)]
        have hs : (pmI p q k i).set ((i : Int) + (k : Int)).toNat (wr (geti (pmI p q k i) ((((i : Int) + (k : Int)).toNat : Nat) : Int) + wr (geti p (i : Nat) * geti q (k : Nat)))) = pmI p q k (i + 1) := by
          rw [r1, pm_val, show ((i : Int) + (k : Int)).toNat = k + i by omega]
          exact pmI_step p q k i
        repeat' (first | (apply AOps.nil; try simp only [List.nil_append, List.cons_append, List.set_cons_zero, List.set_cons_succ, List.length_cons, List.length_nil, Nat.reduceAdd, AV.sh, AV.sh1, AV.sh0, AO.sh, List.map_cons, List.map_nil, Nat.zero_add, Nat.add_zero, setAll]) | (apply w_move; exact rfl; exact rfl) | (apply w_assign; exact rfl; exact rfl) | apply AWp.seq | apply AWp.region | ((apply AWp.condP; exact rfl) <;> intro h) | apply AWp.block | apply AWp.exit | apply AWp.skip | ((apply w_mulw (d := 41)); exact rfl; exact rfl; exact rfl) | ((apply w_addw (d := 42)); exact rfl; exact rfl; exact rfl) | exact wr_in _ | omega | ((first | apply w_lss | apply w_add | apply w_idx | apply w_ld); iterate 3 exact rfl) | (apply w_idxo; exact rfl; exact rfl; (exact .sli rfl); exact rfl) | (apply w_ldo; iterate 4 exact rfl) | (apply w_sti; exact rfl; exact rfl; rotate_left 1; exact rfl; rotate_left 2) | (apply inI_of <;> omega))
        exact ⟨i + 1, by omega, by omega, ⟨lee rfl (by (repeat (first | exact le_nil | refine le_eq rfl rfl ?_))), by (repeat (first | exact lo_nil | refine lo_eq (congrArg (AO.sli _) (hs)) ?_)), rfl, rfl⟩⟩
      · have e : i = p.length := by omega
        subst e
        have hs := pmI_all p q k
        repeat' (first | (apply AOps.nil; try simp only [List.nil_append, List.cons_append, List.set_cons_zero, List.set_cons_succ, List.length_cons, List.length_nil, Nat.reduceAdd, AV.sh, AV.sh1, AV.sh0, AO.sh, List.map_cons, List.map_nil, Nat.zero_add, Nat.add_zero, setAll]) | (apply w_move; exact rfl; exact rfl) | apply AWp.seq | apply AWp.region | ((apply AWp.condP; exact rfl) <;> intro h) | apply AWp.block | apply AWp.exit | apply AWp.skip | omega | ((first | apply w_lss | apply w_add); iterate 3 exact rfl) | (apply inI_of <;> omega))
        exact ⟨k + 1, by omega, by omega, ⟨lee rfl (by (repeat (first | exact le_nil | refine le_eq rfl rfl ?_))), by (repeat (first | exact lo_nil | refine lo_eq (congrArg (AO.sli _) (hs)) ?_)), rfl, rfl⟩⟩
  · have e : k = q.length := by omega
    subst e
    rw [pmO_all]
    repeat' (first | (apply AOps.nil; try simp only [List.nil_append, List.cons_append, List.set_cons_zero, List.set_cons_succ, List.length_cons, List.length_nil, Nat.reduceAdd, AV.sh, AV.sh1, AV.sh0, AO.sh, List.map_cons, List.map_nil, Nat.zero_add, Nat.add_zero, setAll]) | (apply w_move; exact rfl; exact rfl) | (apply w_assign; exact rfl; exact rfl) | apply AWp.seq | apply AWp.region | ((apply AWp.condP; exact rfl) <;> intro h) | apply AWp.block | apply AWp.ret | apply AWp.exit | apply AWp.skip | omega | ((apply w_lss); iterate 3 exact rfl))
    exact ⟨_, _, _, .v1 Try.results17 rfl, .sli rfl, rfl, rfl⟩

set_option maxHeartbeats 8000000 in
theorem l14Times_c (p q : List Int) (hp : 1 ≤ p.length ∧ p.length ≤ 10000000) (hq : 1 ≤ q.length ∧ q.length ≤ 10000000) : AFn Try.prog 20 [.ints p, .ints q] (IsInts 2 (pm p q)) := by
  have hz : List.replicate ((p.length : Int) + (q.length : Int) - 1).toNat (0 : Int) = pmO p q 0 := by rw [← pmO_zero]; congr 1; omega
  (refine AFn.start Try.func20 Try.ntmps20 rfl (by kernel_rfl) fun hk => ?_; simp only [Env.start, enumF, List.length_cons, List.length_nil, Nat.reduceAdd, Nat.reduceSub, List.cons_append, List.nil_append])
  repeat' (first | (apply AOps.nil; try simp only [List.nil_append, List.cons_append, List.set_cons_zero, List.set_cons_succ, List.length_cons, List.length_nil, Nat.reduceAdd, AV.sh, AV.sh1, AV.sh0, AO.sh, List.map_cons, List.map_nil, Nat.zero_add, Nat.add_zero, setAll]) | (apply w_move; exact rfl; exact rfl) | (apply w_assign; exact rfl; exact rfl) | apply AWp.seq | apply AWp.region | apply AWp.block | (apply w_len; exact rfl; exact rfl; first | exact .ints _ | exact .intss _ | exact .sli rfl | exact .sls rfl | exact .slr rfl | exact .orow rfl | exact .nil) | omega | ((first | apply w_add | apply w_sub); iterate 3 exact rfl) | (apply w_mki; exact rfl; exact rfl; rotate_left 3; exact rfl; rotate_left 1) | (apply inI_of <;> omega))
  refine AWp.loop (ι := Nat) (fun k => ⟨56, [(0, .ints p), (1, .ints q), (5, .own 0), (6, .i k)]⟩) (fun k => [.sli 2 (pmO p q k)]) (fun k => k ≤ q.length) (fun k => q.length - k) 0 (by omega) ⟨lee rfl (by (repeat (first | exact le_nil | refine le_eq rfl rfl ?_))), by (repeat (first | exact lo_nil | refine lo_eq (congrArg (AO.sli _) (hz)) ?_)), rfl, rfl⟩ ?_
  rintro k k0
  by_cases hk : k < q.length
  · repeat' (first | (apply AOps.nil; try simp only [List.nil_append, List.cons_append, List.set_cons_zero, List.set_cons_succ, List.length_cons, List.length_nil, Nat.reduceAdd, AV.sh, AV.sh1, AV.sh0, AO.sh, List.map_cons, List.map_nil, Nat.zero_add, Nat.add_zero, setAll]) | (apply w_move; exact rfl; exact rfl) | (apply w_assign; exact rfl; exact rfl) | apply AWp.seq | apply AWp.region | ((apply AWp.condP; exact rfl) <;> intro h) | apply AWp.block | apply AWp.ret | apply AWp.exit | apply AWp.skip | (apply w_len; exact rfl; exact rfl; first | exact .ints _ | exact .intss _ | exact .sli rfl | exact .sls rfl | exact .slr rfl | exact .orow rfl | exact .nil) | omega | ((apply w_lss); iterate 3 exact rfl))
    refine AWp.loop (ι := Nat) (fun i => ⟨56, [(0, .ints p), (1, .ints q), (5, .own 0), (6, .i k), (7, .i i)]⟩) (fun i => [.sli 2 (pmI p q k i)]) (fun i => i ≤ p.length ∧ (geti q (k : Nat) = 0 → i = 0)) (fun i => p.length - i) 0 ⟨by omega, fun _ => rfl⟩ ⟨lee rfl (by (repeat (first | exact le_nil | refine le_eq rfl rfl ?_))), by (repeat (first | exact lo_nil | refine lo_eq (congrArg (AO.sli _) (pmI_none p q k)) ?_)), rfl, rfl⟩ ?_
    rintro i ⟨i0, i1⟩
    have hl : (pmI p q k i).length = p.length + q.length - 1 := tab_len _ _
    by_cases h0 : geti q (k : Nat) = 0
    · have hi0 : i = 0 := i1 h0
      subst hi0
      have hs : pmI p q k 0 = pmO p q (k + 1) := by rw [pmO_skip p q k h0]; exact (pmI_none p q k).symm
      repeat' (first | (apply AOps.nil; try simp only [List.nil_append, List.cons_append, List.set_cons_zero, List.set_cons_succ, List.length_cons, List.length_nil, Nat.reduceAdd, AV.sh, AV.sh1, AV.sh0, AO.sh, List.map_cons, List.map_nil, Nat.zero_add, Nat.add_zero, setAll]) | ((apply AOps.splitP; exact rfl; exact rfl) <;> intro h) | (apply w_move; exact rfl; exact rfl) | (apply w_assign; exact rfl; exact rfl) | apply AWp.seq | apply AWp.region | ((apply AWp.condP; exact rfl) <;> intro h) | (apply AWp.condF; exact rfl) | apply AWp.block | apply AWp.exit | apply AWp.skip | (apply w_skip; exact rfl) | (apply w_pickT; exact rfl; exact rfl; exact rfl) | (apply w_pickF; exact rfl; exact rfl; exact rfl) | (apply w_len; exact rfl; exact rfl; first | exact .ints _ | exact .intss _ | exact .sli rfl | exact .sls rfl | exact .slr rfl | exact .orow rfl | exact .nil) | omega | ((first | apply w_lss | apply w_neq | apply w_add | apply w_idx | apply w_ld); iterate 3 exact rfl) | (apply inI_of <;> omega))
      all_goals exact ⟨k + 1, by omega, by omega, ⟨lee rfl (by (repeat (first | exact le_nil | refine le_eq rfl rfl ?_))), by (repeat (first | exact lo_nil | refine lo_eq (congrArg (AO.sli _) (hs)) ?_)), rfl, rfl⟩⟩
    · by_cases hi : i < p.length
      · have r1 : geti (pmI p q k i) ((((k : Int) + (i : Int)).toNat : Nat) : Int) = wr (Cy.mul (trF (ser q) k) (ser p) (k + i)) := by
          rw [show ((k : Int) + (i : Int)).toNat = k + i by omega]
          unfold pmI
          rw [tab_get _ (by omega), if_neg (by omega)]
        have hs : (pmI p q k i).set ((k : Int) + (i : Int)).toNat (wr (geti (pmI p q k i) ((((k : Int) + (i : Int)).toNat : Nat) : Int) + wr (geti p (i : Nat) * geti q (k : Nat)))) = pmI p q k (i + 1) := by
          rw [r1, pm_val, show ((k : Int) + (i : Int)).toNat = k + i by omega]
          exact pmI_step p q k i
        repeat' (first | (apply AOps.nil; try simp only [List.nil_append, List.cons_append, List.set_cons_zero, List.set_cons_succ, List.length_cons, List.length_nil, Nat.reduceAdd, AV.sh, AV.sh1, AV.sh0, AO.sh, List.map_cons, List.map_nil, Nat.zero_add, Nat.add_zero, setAll]) | ((apply AOps.splitP; exact rfl; exact rfl) <;> intro h) | (apply w_move; exact rfl; exact rfl) | apply AWp.seq | apply AWp.region | ((apply AWp.condP; exact rfl) <;> intro h) | (apply AWp.condF; exact rfl) | apply AWp.block | apply AWp.exit | apply AWp.skip | (apply w_skip; exact rfl) | (apply w_pickT; exact rfl; exact rfl; exact rfl) | (apply w_pickF; exact rfl; exact rfl; exact rfl) | (apply w_len; exact rfl; exact rfl; first | exact .ints _ | exact .intss _ | exact .sli rfl | exact .sls rfl | exact .slr rfl | exact .orow rfl | exact .nil) | omega | ((first | apply w_lss | apply w_neq | apply w_idx | apply w_ld); iterate 3 exact rfl))
        refine AWp.regionA (by kernel_rfl) (envC := ⟨56, [(0, .ints p), (1, .ints q), (5, .own 0), (6, .i k), (7, .i i)]⟩) (osC := [.sli 2 (pmI p q k (i + 1))]) rfl rfl ?_ ?_
        · rw [← hs]
          repeat' (first | (apply AOps.nil; try simp only [List.nil_append, List.cons_append, List.set_cons_zero, List.set_cons_succ, List.length_cons, List.length_nil, Nat.reduceAdd, AV.sh, AV.sh1, AV.sh0, AO.sh, List.map_cons, List.map_nil, Nat.zero_add, Nat.add_zero, setAll]) | (apply w_move; exact rfl; exact rfl) | ((apply w_mulw (d := 52)); exact rfl; exact rfl; exact rfl) | ((apply w_addw (d := 53)); exact rfl; exact rfl; exact rfl) | exact wr_in _ | omega | ((first | apply w_add | apply w_idx | apply w_ld); iterate 3 exact rfl) | (apply w_idxo; exact rfl; exact rfl; (exact .sli rfl); exact rfl) | (apply w_ldo; iterate 4 exact rfl) | (apply w_sti; exact rfl; exact rfl; rotate_left 1; exact rfl; rotate_left 2) | apply AllOf.nil | (apply AllOf.cons; exact rfl) | (apply AAny.take; exact rfl; exact rfl; kernel_rfl; kernel_rfl) | (apply AAny.all; exact rfl) | (apply AAny.done; exact rfl) | (apply inI_of <;> omega))
          all_goals (apply Or.inl; refine ⟨lee rfl ?_, ?_, rfl, rfl⟩; (focus ((repeat (first | exact le_nil | refine le_eq rfl rfl ?_)); done)); (focus ((repeat (first | exact lo_nil | refine lo_eq rfl ?_)); done)))
        repeat' (first | (apply AOps.nil; try simp only [List.nil_append, List.cons_append, List.set_cons_zero, List.set_cons_succ, List.length_cons, List.length_nil, Nat.reduceAdd, AV.sh, AV.sh1, AV.sh0, AO.sh, List.map_cons, List.map_nil, Nat.zero_add, Nat.add_zero, setAll]) | (apply w_move; exact rfl; exact rfl) | (apply w_assign; exact rfl; exact rfl) | apply AWp.region | ((apply w_add); iterate 3 exact rfl) | (apply inI_of <;> omega))
        exact ⟨i + 1, ⟨by omega, fun h => absurd h h0⟩, by omega, ⟨lee rfl (by (repeat (first | exact le_nil | refine le_eq rfl rfl ?_))), by (repeat (first | exact lo_nil | refine lo_eq rfl ?_)), rfl, rfl⟩⟩
      · have e : i = p.length := by omega
        subst e
        have hs := pmI_all p q k
        repeat' (first | (apply AOps.nil; try simp only [List.nil_append, List.cons_append, List.set_cons_zero, List.set_cons_succ, List.length_cons, List.length_nil, Nat.reduceAdd, AV.sh, AV.sh1, AV.sh0, AO.sh, List.map_cons, List.map_nil, Nat.zero_add, Nat.add_zero, setAll]) | ((apply AOps.splitP; exact rfl; exact rfl) <;> intro h) | (apply w_move; exact rfl; exact rfl) | (apply w_assign; exact rfl; exact rfl) | apply AWp.seq | apply AWp.region | (apply AWp.condF; exact rfl) | apply AWp.exit | (apply w_skip; exact rfl) | (apply w_pickF; exact rfl; exact rfl; exact rfl) | (apply w_len; exact rfl; exact rfl; first | exact .ints _ | exact .intss _ | exact .sli rfl | exact .sls rfl | exact .slr rfl | exact .orow rfl | exact .nil) | omega | ((first | apply w_lss | apply w_add); iterate 3 exact rfl) | (apply inI_of <;> omega))
        exact ⟨k + 1, by omega, by omega, ⟨lee rfl (by (repeat (first | exact le_nil | refine le_eq rfl rfl ?_))), by (repeat (first | exact lo_nil | refine lo_eq (congrArg (AO.sli _) (hs)) ?_)), rfl, rfl⟩⟩
  · have e : k = q.length := by omega
    subst e
    rw [pmO_all]
    repeat' (first | (apply AOps.nil; try simp only [List.nil_append, List.cons_append, List.set_cons_zero, List.set_cons_succ, List.length_cons, List.length_nil, Nat.reduceAdd, AV.sh, AV.sh1, AV.sh0, AO.sh, List.map_cons, List.map_nil, Nat.zero_add, Nat.add_zero, setAll]) | (apply w_move; exact rfl; exact rfl) | (apply w_assign; exact rfl; exact rfl) | apply AWp.seq | apply AWp.region | ((apply AWp.condP; exact rfl) <;> intro h) | apply AWp.block | apply AWp.ret | apply AWp.exit | apply AWp.skip | (apply w_len; exact rfl; exact rfl; first | exact .ints _ | exact .intss _ | exact .sli rfl | exact .sls rfl | exact .slr rfl | exact .orow rfl | exact .nil) | omega | ((apply w_lss); iterate 3 exact rfl))
    exact ⟨_, _, _, .v1 Try.results20 rfl, .sli rfl, rfl, rfl⟩
end Go.Proofs.Ytkcbihmpjkkccaa
/-
  Torus polynomials: the plain law. No condition.
-/
namespace Go.Proofs.Ytkcbihmpjkkccaa
open Go Go.RowKit
open Cy (Ser Pol Phi divs pr xp Un)

/-! ### Numbers that wrap -/
theorem wr_mulS {F G f g : Ser} : ∀ (n : Nat), (∀ k, wr (F k) = wr (f k)) → (∀ k, wr (G k) = wr (g k)) → wr (Cy.mul F G n) = wr (Cy.mul f g n) := by
  intro n
  induction n generalizing F f with
  | zero => intro h1 h2; rw [Cy.mul_0, Cy.mul_0, ← wr_mul, h1, h2, wr_mul]
  | succ n ih =>
    intro h1 h2
    rw [Cy.mul_s, Cy.mul_s, ← wr_add, ← wr_mul, h1, h2, wr_mul, ih (F := Cy.tl F) (f := Cy.tl f) (fun k => h1 (k + 1)) h2, wr_add]
theorem ser_tab {n : Nat} {F : Ser} (h : Pol n F) : ser (tab (n + 1) F) = F := by
  funext k
  by_cases hk : k < n + 1
  · exact tab_get F hk
  · rw [ser_out (by rw [tab_len]; omega), h k (by omega)]
theorem ser_tabw {n : Nat} {F : Ser} (h : Pol n F) (k : Nat) : wr (ser (tab (n + 1) fun c => wr (F c)) k) = wr (F k) := by
  have : Pol n fun c => wr (F c) := fun m hm => by show wr (F m) = 0; rw [h m hm]; exact wr_zero
  rw [ser_tab this, wr_wr]
theorem pm_tabw {a b : Nat} {f g : Ser} (hf : Pol a f) (hg : Pol b g) : pm (tab (a + 1) fun c => wr (f c)) (tab (b + 1) fun c => wr (g c)) = tab (a + b + 1) fun c => wr (Cy.mul f g c) := by
  unfold pm
  rw [tab_len, tab_len, show a + 1 + (b + 1) - 1 = a + b + 1 by omega]
  refine tab_congr fun c _ => ?_
  rw [wr_mulS c (ser_tabw hg) (ser_tabw hf), Cy.mul_comm]

/-! ### The torus polynomial -/
def toB (p q d : Nat) : Bool := decide (¬ d ∣ p) && decide (¬ d ∣ q)
noncomputable def To (p q : Nat) : Ser := pr ((divs (p * q)).filter (toB p q)) Phi
def Ge (p q : Nat) : Ser := fun n => if n % p = 0 ∧ n < p * q then 1 else 0
theorem xp_at (d n : Nat) : xp d n = (if n < d then 0 else if n - d = 0 then 1 else 0) - (if n = 0 then 1 else 0) := by
  simp only [Cy.xp, Cy.add, Cy.neg, Cy.sh, Cy.one]
  omega
theorem ge_xp {p q : Nat} (hp : 0 < p) (hq : 0 < q) : Cy.mul (Ge p q) (xp p) = xp (p * q) := by
  have hpq : 0 < p * q := Nat.mul_pos hp hq
  have hle : p ≤ p * q := Nat.le_mul_of_pos_right _ hq
  funext n
  have h := Cy.mul_xp p (Ge p q) n
  rw [Cy.mul_neg] at h
  have h' : Cy.mul (Ge p q) (xp p) n = (if n < p then 0 else Ge p q (n - p)) - Ge p q n := by
    simp only [Cy.neg] at h; omega
  rw [h', xp_at]
  unfold Ge
  by_cases h1 : n < p
  · rw [if_pos h1, Nat.mod_eq_of_lt h1]
    by_cases h0 : n = 0
    · subst h0; simp [hpq]
    · have : n < p * q := by omega
      simp [h0, this]
  · rw [if_neg h1]
    have e : (n - p) % p = n % p := by rw [Nat.mod_eq_sub_mod (a := n) (by omega)]
    rw [e]
    have h0 : n ≠ 0 := by omega
    by_cases hm : n % p = 0
    · obtain ⟨k, rfl⟩ : ∃ k, n = p * k := ⟨n / p, by have := Nat.div_add_mod n p; omega⟩
      have hk1 : p * k - p = p * (k - 1) := by rw [Nat.mul_sub, Nat.mul_one]
      have hk0 : 0 < k := Nat.pos_of_ne_zero fun e => by subst e; simp at h0
      have c1 : p * (k - 1) < p * q ↔ k - 1 < q := Nat.mul_lt_mul_left hp
      have c2 : p * k < p * q ↔ k < q := Nat.mul_lt_mul_left hp
      have c3 : p * k - p * q = 0 ↔ k ≤ q := by
        rw [← Nat.mul_sub]
        constructor
        · intro h
          rcases Nat.mul_eq_zero.1 h with h | h <;> omega
        · intro h
          rw [show k - q = 0 by omega, Nat.mul_zero]
      simp only [hm, hk1, c1, c2, c3, h0, true_and, if_false]
      by_cases k1 : k < q
      · have a1 : k - 1 < q := by omega
        simp [a1, k1]
      · by_cases k2 : k = q
        · subst k2
          have a1 : k - 1 < k := by omega
          simp [a1]
        · have a1 : ¬ k - 1 < q := by omega
          have a2 : ¬ k ≤ q := by omega
          simp [a1, k1, a2]
    · have h2 : ¬ (n < p * q) → n - p * q ≠ 0 := fun hge e => by
        have : n = p * q := by omega
        apply hm
        rw [this, Nat.mul_mod_right]
      by_cases h3 : n < p * q
      · simp [hm, h0, h3]
      · simp [hm, h0, h3, h2 h3]
theorem divs_one {q : Nat} (hq : 0 < q) : (divs q).Perm (1 :: (divs q).filter fun d => decide (d ≠ 1)) := by
  refine Cy.perm_of_mem (Cy.divs_nodup q) ?_ fun x => ?_
  · rw [List.nodup_cons]
    refine ⟨fun h => ?_, (Cy.divs_nodup q).filter _⟩
    have := (List.mem_filter.1 h).2
    simp at this
  · rw [List.mem_cons, List.mem_filter, Cy.mem_divs hq]
    simp only [decide_eq_true_eq]
    constructor
    · intro h
      by_cases e : x = 1
      · exact .inl e
      · exact .inr ⟨h, e⟩
    · rintro (rfl | h)
      · exact Nat.one_dvd q
      · exact h.1
theorem divs_two {p q : Nat} (hp : 0 < p) (hq : 0 < q) (hc : Nat.Coprime p q) : (divs (p * q)).Perm (divs p ++ ((divs q).filter (fun d => decide (d ≠ 1)) ++ (divs (p * q)).filter (toB p q))) := by
  have hpq : 0 < p * q := Nat.mul_pos hp hq
  have hboth : ∀ x, x ∣ p → x ∣ q → x = 1 := fun x h1 h2 => by
    have := Nat.dvd_gcd h1 h2
    rw [hc] at this
    exact Nat.eq_one_of_dvd_one this
  refine Cy.perm_of_mem (Cy.divs_nodup _) ?_ fun x => ?_
  · rw [List.nodup_append, List.nodup_append]
    refine ⟨Cy.divs_nodup p, ⟨(Cy.divs_nodup q).filter _, (Cy.divs_nodup _).filter _, fun a ha b hb e => ?_⟩, fun a ha b hb e => ?_⟩
    · subst e
      have h1 := (Cy.mem_divs hq).1 (List.mem_filter.1 ha).1
      have h2 := (List.mem_filter.1 hb).2
      simp [toB, h1] at h2
    · subst e
      have h1 := (Cy.mem_divs hp).1 ha
      rcases List.mem_append.1 hb with hb | hb
      · have h2 := List.mem_filter.1 hb
        have h3 := (Cy.mem_divs hq).1 h2.1
        have := h2.2
        simp [hboth a h1 h3] at this
      · have h2 := (List.mem_filter.1 hb).2
        simp [toB, h1] at h2
  · rw [List.mem_append, List.mem_append, List.mem_filter, List.mem_filter, Cy.mem_divs hpq, Cy.mem_divs hp, Cy.mem_divs hq]
    simp only [decide_eq_true_eq, toB, Bool.and_eq_true]
    constructor
    · intro h
      by_cases h1 : x ∣ p
      · exact .inl h1
      · by_cases h2 : x ∣ q
        · exact .inr (.inl ⟨h2, fun e => h1 (e ▸ Nat.one_dvd p)⟩)
        · exact .inr (.inr ⟨h, h1, h2⟩)
    · rintro (h | h | h)
      · exact Nat.dvd_trans h ⟨q, rfl⟩
      · exact Nat.dvd_trans h.1 ⟨p, Nat.mul_comm _ _⟩
      · exact h.1
theorem to_eq {p q : Nat} (hp : 0 < p) (hq : 0 < q) (hc : Nat.Coprime p q) : Cy.mul (To p q) (xp q) = Cy.mul (Ge p q) (xp 1) := by
  have h1 := (Cy.ok (p * q) (Nat.mul_pos hp hq)).pd
  rw [Cy.pr_perm (divs_two hp hq hc), Cy.pr_append, Cy.pr_append, (Cy.ok p hp).pd] at h1
  have h2 := (Cy.ok q hq).pd
  rw [Cy.pr_perm (divs_one hq), Cy.pr_cons, Cy.Phi_one] at h2
  rw [← ge_xp hp hq] at h1
  refine Cy.cancel (Cy.un_xp hp) ?_
  unfold To
  rw [← h2]
  generalize pr ((divs (p * q)).filter (toB p q)) Phi = A at *
  generalize pr ((divs q).filter fun d => decide (d ≠ 1)) Phi = B at *
  have e1 : Cy.mul (xp p) (Cy.mul A (Cy.mul (xp 1) B)) = Cy.mul (xp 1) (Cy.mul (xp p) (Cy.mul B A)) := by ac_rfl
  rw [e1, h1]
  ac_rfl

theorem xp_pol {n : Nat} (h : 0 < n) : Pol n (xp n) ∧ xp n n = 1 := by
  constructor
  · intro k hk
    rw [xp_at, if_neg (by omega), if_neg (by omega), if_neg (by omega)]; rfl
  · rw [xp_at, if_neg (by omega), if_pos (by omega), if_neg (by omega)]; rfl
theorem ge_pol {p q : Nat} (hp : 0 < p) (hq : 0 < q) : Pol (p * (q - 1)) (Ge p q) ∧ Ge p q (p * (q - 1)) = 1 := by
  constructor
  · intro k hk
    unfold Ge
    rw [if_neg]
    rintro ⟨h1, h2⟩
    obtain ⟨j, rfl⟩ := Nat.dvd_of_mod_eq_zero h1
    have a := (Nat.mul_lt_mul_left hp).1 hk
    have b := (Nat.mul_lt_mul_left hp).1 h2
    omega
  · unfold Ge
    rw [if_pos ⟨Nat.mul_mod_right _ _, (Nat.mul_lt_mul_left hp).2 (by omega)⟩]
theorem ge_bd (p q n : Nat) : 0 ≤ Ge p q n ∧ Ge p q n ≤ 1 := by unfold Ge; split <;> omega
/-- The product with t - 1. -/
theorem gx_bd (p q n : Nat) : -1 ≤ Cy.mul (Ge p q) (xp 1) n ∧ Cy.mul (Ge p q) (xp 1) n ≤ 1 := by
  have h := Cy.mul_xp 1 (Ge p q) n
  rw [Cy.mul_neg] at h
  simp only [Cy.neg] at h
  have a := ge_bd p q n
  have b := ge_bd p q (n - 1)
  split at h <;> omega
theorem gx_pol {p q : Nat} (hp : 0 < p) (hq : 0 < q) : Pol (p * (q - 1) + 1) (Cy.mul (Ge p q) (xp 1)) ∧ Cy.mul (Ge p q) (xp 1) (p * (q - 1) + 1) = 1 := by
  obtain ⟨a, b⟩ := ge_pol hp hq
  obtain ⟨c, d⟩ := xp_pol (n := 1) (by omega)
  refine ⟨a.mul c, ?_⟩
  rw [a.lead c, b, d]; rfl
theorem to_deg {p q : Nat} (hp : 0 < p) (hq : 0 < q) (hc : Nat.Coprime p q) {D : Nat} (hD : Pol D (To p q)) : q ≤ p * (q - 1) + 1 ∧ Pol (p * (q - 1) + 1 - q) (To p q) ∧ To p q (p * (q - 1) + 1 - q) = 1 := by
  obtain ⟨a, b⟩ := gx_pol hp hq
  obtain ⟨c, d⟩ := xp_pol hq
  exact Cy.deg_left (to_eq hp hq hc) a b c d D hD
theorem to_bd {p q : Nat} (hp : 0 < p) (hq : 0 < q) (hc : Nat.Coprime p q) (n : Nat) : -((n : Int) + 1) ≤ To p q n ∧ To p q n ≤ (n : Int) + 1 := by
  induction n using Nat.strongRecOn with
  | _ n ih =>
    have h := Cy.mul_xp q (To p q) n
    rw [Cy.mul_neg, to_eq hp hq hc] at h
    simp only [Cy.neg] at h
    have g := gx_bd p q n
    split at h
    · omega
    · have := ih (n - q) (by omega)
      omega

/-! ### One divisor after the other -/
open Classical in
noncomputable def toL (p q : Nat) : Nat → Ser
  | 0 => Cy.one
  | k + 1 => if (k + 1) ∣ p * q ∧ toB p q (k + 1) = true then Cy.mul (toL p q k) (Phi (k + 1)) else toL p q k
open Classical in
noncomputable def toD (p q : Nat) : Nat → Nat
  | 0 => 0
  | k + 1 => if (k + 1) ∣ p * q ∧ toB p q (k + 1) = true then toD p q k + Cy.tot (k + 1) else toD p q k
theorem toL_pr (p q : Nat) : ∀ k : Nat, toL p q k = pr (((List.range (k + 1)).filter fun d => decide (0 < d ∧ d ∣ p * q)).filter (toB p q)) Phi
  | 0 => by simp [toL, pr]
  | k + 1 => by
    rw [toL, List.range_succ, List.filter_append, List.filter_append, Cy.pr_append, ← toL_pr p q k]
    by_cases h : (k + 1) ∣ p * q ∧ toB p q (k + 1) = true
    · rw [if_pos h]
      have : ([k + 1].filter (fun d => decide (0 < d ∧ d ∣ p * q))).filter (toB p q) = [k + 1] := by simp [h.1, h.2]
      rw [this, Cy.pr_cons, Cy.pr_nil, Cy.mul_one]
    · rw [if_neg h]
      have : ([k + 1].filter (fun d => decide (0 < d ∧ d ∣ p * q))).filter (toB p q) = [] := by
        by_cases h1 : (k + 1) ∣ p * q
        · have h2 : ¬ toB p q (k + 1) = true := fun e => h ⟨h1, e⟩
          simp [h1, h2]
        · simp [h1]
      rw [this, Cy.pr_nil, Cy.mul_one]
theorem toL_all (p q : Nat) : toL p q (p * q) = To p q := by rw [toL_pr]; rfl
theorem toL_pol (p q : Nat) : ∀ k : Nat, Pol (toD p q k) (toL p q k) ∧ toL p q k (toD p q k) = 1
  | 0 => by
    refine ⟨fun n hn => ?_, rfl⟩
    have e : toD p q 0 = 0 := rfl
    have h1 : n ≠ 0 := by omega
    show Cy.one n = 0
    simp [Cy.one, h1]
  | k + 1 => by
    obtain ⟨a, b⟩ := toL_pol p q k
    rw [toL, toD]
    split
    · obtain ⟨c, d, _⟩ := Cy.phi_deg (k + 1) (by omega)
      exact ⟨a.mul c, by rw [a.lead c, b, d]; rfl⟩
    · exact ⟨a, b⟩
/-- The degree of the last one. -/
theorem toD_all {p q : Nat} (hp : 0 < p) (hq : 0 < q) (hc : Nat.Coprime p q) : toD p q (p * q) = p * (q - 1) + 1 - q := by
  obtain ⟨a, b⟩ := toL_pol p q (p * q)
  rw [toL_all] at a b
  obtain ⟨_, c, d⟩ := to_deg hp hq hc a
  apply Classical.byContradiction
  intro h
  rcases Nat.lt_or_ge (toD p q (p * q)) (p * (q - 1) + 1 - q) with h1 | h1
  · have := a _ h1; omega
  · have := c (toD p q (p * q)) (by omega); omega
end Go.Proofs.Ytkcbihmpjkkccaa
/-
  Bounds of products of cyclotomic polynomials by their binomials: the plain law. No condition.
-/
namespace Go.Proofs.Ytkcbihmpjkkccaa
open Go Go.RowKit
open Cy (Ser Pol Phi divs pr xp Un)

/-- Powers of a series. -/
def pw (f : Ser) : Nat → Ser
  | 0 => Cy.one
  | k + 1 => Cy.mul f (pw f k)
theorem pw_add (f : Ser) : ∀ a b : Nat, pw f (a + b) = Cy.mul (pw f a) (pw f b)
  | 0, b => by rw [Nat.zero_add]; show _ = Cy.mul Cy.one _; rw [Cy.one_mul]
  | a + 1, b => by
    rw [show a + 1 + b = (a + b) + 1 by omega]
    show Cy.mul f (pw f (a + b)) = Cy.mul (Cy.mul f (pw f a)) (pw f b)
    rw [pw_add f a b, Cy.mul_assoc]
theorem pw_one (f : Ser) : pw f 1 = f := by show Cy.mul f Cy.one = f; rw [Cy.mul_one]
theorem pr_one (U : List Nat) : pr U (fun _ => Cy.one) = Cy.one := by
  induction U with
  | nil => rfl
  | cons b U ih => rw [Cy.pr_cons, Cy.one_mul]; exact ih
/-- The product of a list, as powers over a list that has all of its numbers. -/
theorem pr_count {U : List Nat} (hU : U.Nodup) (F : Nat → Ser) : ∀ {S : List Nat}, (∀ x ∈ S, x ∈ U) → pr S F = pr U fun u => pw (F u) (S.count u)
  | [], _ => (pr_one U).symm
  | s :: S, h => by
    have ih := pr_count hU F (S := S) fun x hx => h x (by simp [hx])
    rw [Cy.pr_cons, ih]
    have e : (fun u => pw (F u) ((s :: S).count u)) = fun u => Cy.mul (if u = s then F u else Cy.one) (pw (F u) (S.count u)) := by
      funext u
      rw [List.count_cons]
      by_cases hu : u = s
      · subst hu; simp only [BEq.rfl, if_true]; rfl
      · rw [if_neg (by simpa using fun h => hu h.symm), if_neg hu, Cy.one_mul, Nat.add_zero]
    rw [e, Cy.pr_mul]
    congr 1
    have hs := h s (by simp)
    clear ih e h
    induction U with
    | nil => cases hs
    | cons a U ih =>
      obtain ⟨h1, h2⟩ := List.nodup_cons.1 hU
      rw [Cy.pr_cons]
      by_cases ha : a = s
      · subst ha
        rw [if_pos rfl]
        have : pr U (fun u => if u = a then F u else Cy.one) = Cy.one := by
          have : pr U (fun u => if u = a then F u else Cy.one) = pr U fun _ => Cy.one := Cy.pr_congr fun u hu => if_neg fun (e : u = a) => h1 (e ▸ hu)
          rw [this, pr_one]
        rw [this, Cy.mul_one]
      · rw [if_neg ha, Cy.one_mul]
        exact ih h2 (by rcases List.mem_cons.1 hs with h | h; exact absurd h.symm ha; exact h)
/-- A product of binomials, as powers over the divisors of a number. -/
theorem xp_divs {n m : Nat} (hn : 0 < n) (hm : m ∣ n) : xp m = pr (divs n) fun u => pw (Phi u) (if u ∣ m then 1 else 0) := by
  have hm0 : 0 < m := Nat.pos_of_dvd_of_pos hm hn
  have hp : (divs m).Perm ((divs n).filter fun u => decide (u ∣ m)) := Cy.perm_of_mem (Cy.divs_nodup m) ((Cy.divs_nodup n).filter _) fun x => by
    rw [Cy.mem_divs hm0, List.mem_filter, Cy.mem_divs hn]
    simp only [decide_eq_true_eq]
    exact ⟨fun h => ⟨Nat.dvd_trans h hm, h⟩, fun h => h.2⟩
  rw [← (Cy.ok m hm0).pd, Cy.pr_perm hp, Cy.pr_filter]
  refine Cy.pr_congr fun u _ => ?_
  by_cases hu : u ∣ m
  · rw [if_pos (by simpa using hu), if_pos hu, pw_one]
  · rw [if_neg (by simpa using hu), if_neg hu]; rfl
theorem xps_divs {n : Nat} (hn : 0 < n) : ∀ {M : List Nat}, (∀ m ∈ M, m ∣ n) → pr M xp = pr (divs n) fun u => pw (Phi u) (M.countP fun m => decide (u ∣ m))
  | [], _ => by
    rw [Cy.pr_nil]
    exact (pr_one (divs n)).symm
  | m :: M, h => by
    rw [Cy.pr_cons, xps_divs hn (M := M) fun x hx => h x (by simp [hx]), xp_divs hn (h m (by simp)), ← Cy.pr_mul]
    refine Cy.pr_congr fun u _ => ?_
    rw [← pw_add, List.countP_cons, Nat.add_comm]
    simp only [decide_eq_true_eq]

/-! ### Bounds -/
def bd (D : Nat) (B : Nat) (f : Ser) : Prop := ∀ n, n ≤ D → -(B : Int) ≤ f n ∧ f n ≤ B
theorem bd_xp {D B : Nat} {f : Ser} (h : bd D B f) (m : Nat) : bd D (B * 2) (Cy.mul f (xp m)) := fun n hn => by
  have e := Cy.mul_xp m f n
  rw [Cy.mul_neg] at e
  simp only [Cy.neg] at e
  have h1 := h n hn
  have h2 := h (n - m) (by omega)
  split at e <;> omega
theorem bd_gi {D B : Nat} {f : Ser} (h : bd D B f) {l : Nat} (hl : 0 < l) : bd D (B * (D / l + 1)) (Cy.mul f (Cy.neg (Cy.gi l))) := by
  have key : ∀ n, n ≤ D → -((B * (n / l + 1) : Nat) : Int) ≤ Cy.mul f (Cy.gi l) n ∧ Cy.mul f (Cy.gi l) n ≤ ((B * (n / l + 1) : Nat) : Int) := by
    intro n
    induction n using Nat.strongRecOn with
    | _ n ih =>
      intro hn
      have h1 := h n hn
      rw [mul_gi hl]
      by_cases hlt : n < l
      · rw [if_pos hlt, Nat.div_eq_of_lt hlt, Nat.zero_add, Nat.mul_one]; omega
      · rw [if_neg hlt]
        have h2 := ih (n - l) (by omega) (by omega)
        have e : n / l = (n - l) / l + 1 := by rw [← Nat.sub_add_cancel (show l ≤ n by omega), Nat.add_div_right _ hl]; simp
        rw [e]
        rw [show B * ((n - l) / l + 1 + 1) = B * ((n - l) / l + 1) + B by rw [Nat.mul_add B _ 1, Nat.mul_one]]
        omega
  intro n hn
  rw [Cy.mul_neg]
  have h1 := key n hn
  have h2 : B * (n / l + 1) ≤ B * (D / l + 1) := Nat.mul_le_mul_left _ (by have := Nat.div_le_div_right (c := l) hn; omega)
  simp only [Cy.neg]
  omega
theorem ge_succ {l : Nat} (hl : 0 < l) (r : Nat) : Ge l (r + 1) = Cy.add (Ge l r) (Cy.sh (l * r) Cy.one) := by
  funext n
  simp only [Ge, Cy.add, Cy.sh, Cy.one, Nat.mul_add, Nat.mul_one]
  by_cases h1 : n % l = 0
  · obtain ⟨k, rfl⟩ : ∃ k, n = l * k := ⟨n / l, by have := Nat.div_add_mod n l; omega⟩
    by_cases h2 : k < r
    · have a : l * k < l * r := Nat.mul_lt_mul_of_pos_left h2 hl
      rw [if_pos ⟨h1, by omega⟩, if_pos ⟨h1, a⟩, if_pos a]; omega
    · by_cases h3 : k = r
      · subst h3
        rw [if_pos ⟨h1, by omega⟩, if_neg (by omega), if_neg (by omega), if_pos (by omega)]; omega
      · have a : l * (r + 1) ≤ l * k := Nat.mul_le_mul_left _ (by omega)
        rw [Nat.mul_add, Nat.mul_one] at a
        rw [if_neg (by omega), if_neg (by omega), if_neg (by omega), if_neg (by omega)]; omega
  · rw [if_neg (by omega), if_neg (by omega)]
    by_cases h2 : n < l * r
    · rw [if_pos h2]; omega
    · rw [if_neg h2, if_neg]; omega
      intro h3
      have : n = l * r := by omega
      rw [this, Nat.mul_mod_right] at h1
      exact h1 rfl
theorem bd_ge {D B : Nat} {f : Ser} (h : bd D B f) {l : Nat} (hl : 0 < l) : ∀ r : Nat, bd D (B * r) (Cy.mul f (Ge l r))
  | 0 => fun n _ => by
    have : Ge l 0 = Cy.zero := by funext n; simp [Ge, Cy.zero]
    rw [this, Cy.mul_comm, Cy.zero_mul]
    simp [Cy.zero]
  | r + 1 => fun n hn => by
    have h1 := bd_ge h hl r n hn
    rw [ge_succ hl, Cy.mul_add, Cy.mul_sh, Cy.mul_one]
    have h2 := h (n - l * r) (by omega)
    simp only [Cy.add, Cy.sh]
    rw [Nat.mul_add, Nat.mul_one]
    split <;> omega

/-! ### Products and quotients of binomials: (m, l) is x^m - 1 over x^l - 1, where 0 stands for nothing -/
def opG (o : Nat × Nat) : Ser := if o.2 = 0 then xp o.1 else if o.1 = 0 then Cy.neg (Cy.gi o.2) else Ge o.2 (o.1 / o.2)
def opB (D : Nat) (o : Nat × Nat) : Nat := if o.2 = 0 then 2 else if o.1 = 0 then D / o.2 + 1 else o.1 / o.2
def opOk (o : Nat × Nat) : Bool := (o.2 == 0 && o.1 != 0) || (o.2 != 0 && o.1 == 0) || (o.2 != 0 && o.1 != 0 && o.2 * (o.1 / o.2) == o.1)
def opN (O : List (Nat × Nat)) : List Nat := (O.map Prod.fst).filter fun m => decide (m ≠ 0)
def opM (O : List (Nat × Nat)) : List Nat := (O.map Prod.snd).filter fun m => decide (m ≠ 0)
def prG : List (Nat × Nat) → Ser → Ser
  | [], f => f
  | o :: O, f => prG O (Cy.mul f (opG o))
def bdO (D : Nat) : List (Nat × Nat) → Nat → Nat
  | [], B => B
  | o :: O, B => bdO D O (B * opB D o)
theorem bd_prG {D : Nat} : ∀ {O : List (Nat × Nat)} {f : Ser} {B : Nat}, (∀ o ∈ O, opOk o = true) → bd D B f → bd D (bdO D O B) (prG O f)
  | [], f, B, _, h => h
  | o :: O, f, B, hO, h => by
    refine bd_prG (O := O) (fun x hx => hO x (by simp [hx])) ?_
    have ho := hO o (by simp)
    unfold opOk at ho
    unfold opG opB
    by_cases h2 : o.2 = 0
    · rw [if_pos h2, if_pos h2]; exact bd_xp h o.1
    · rw [if_neg h2, if_neg h2]
      by_cases h1 : o.1 = 0
      · rw [if_pos h1, if_pos h1]; exact bd_gi h (by omega)
      · rw [if_neg h1, if_neg h1]; exact bd_ge h (by omega) _
theorem prG_mul : ∀ (O : List (Nat × Nat)) (f : Ser), (∀ o ∈ O, opOk o = true) → Cy.mul (prG O f) (pr (opM O) xp) = Cy.mul f (pr (opN O) xp)
  | [], f, _ => rfl
  | o :: O, f, hO => by
    have ih := prG_mul O (Cy.mul f (opG o)) fun x hx => hO x (by simp [hx])
    have ho := hO o (by simp)
    unfold opOk at ho
    simp only [Bool.or_eq_true, Bool.and_eq_true, beq_iff_eq, bne_iff_ne, ne_eq] at ho
    have eM : opM (o :: O) = if o.2 = 0 then opM O else o.2 :: opM O := by
      unfold opM; rw [List.map_cons, List.filter_cons]; by_cases h : o.2 = 0 <;> simp [h]
    have eN : opN (o :: O) = if o.1 = 0 then opN O else o.1 :: opN O := by
      unfold opN; rw [List.map_cons, List.filter_cons]; by_cases h : o.1 = 0 <;> simp [h]
    rw [eM, eN]
    show Cy.mul (prG O (Cy.mul f (opG o))) _ = _
    unfold opG at ih ⊢
    by_cases h2 : o.2 = 0
    · have h1 : ¬ o.1 = 0 := by omega
      simp only [if_pos h2, if_neg h1] at ih ⊢
      rw [ih, Cy.pr_cons, Cy.mul_assoc]
    · by_cases h1 : o.1 = 0
      · simp only [if_neg h2, if_pos h1] at ih ⊢
        rw [Cy.pr_cons, Cy.mul_left, ih, ← Cy.mul_assoc]
        congr 1
        rw [Cy.mul_left, Cy.mul_neg, ← Cy.neg_mul, Cy.mul_comm _ (Cy.gi o.2), Cy.xp_gi (by omega), Cy.mul_one]
      · simp only [if_neg h2, if_neg h1] at ih ⊢
        have hr : 0 < o.1 / o.2 := by
          rcases Nat.eq_zero_or_pos (o.1 / o.2) with hz | hz
          · rw [hz, Nat.mul_zero] at ho; omega
          · exact hz
        have hd : o.2 * (o.1 / o.2) = o.1 := by omega
        rw [Cy.pr_cons, Cy.pr_cons, Cy.mul_left, ih, Cy.mul_assoc, Cy.mul_left, ← Cy.mul_assoc (xp o.2), Cy.mul_comm (xp o.2), ge_xp (by omega) hr, hd]

/-- A bound, as it is tried. -/
def tqB (n : Nat) (S : List Nat) (O : List (Nat × Nat)) : Bool :=
  O.all opOk && (opN O).all (fun m => n % m == 0) && (opM O).all (fun m => n % m == 0) && S.all (fun m => n % m == 0) &&
  (divs n).all (fun u => S.count u + (opM O).countP (fun m => decide (u ∣ m)) == (opN O).countP (fun m => decide (u ∣ m))) &&
  decide (bdO ((opN O).sum - (opM O).sum) O 1 ≤ 1000000000000) && decide ((opN O).sum - (opM O).sum ≤ 2000)
theorem pol_xps : ∀ {M : List Nat}, (∀ m ∈ M, 0 < m) → Pol M.sum (pr M xp) ∧ pr M xp M.sum = 1
  | [], _ => ⟨fun n hn => by
      have h1 : n ≠ 0 := by simp at hn; omega
      show Cy.one n = 0
      simp [Cy.one, h1], rfl⟩
  | m :: M, h => by
    obtain ⟨a, b⟩ := pol_xps (M := M) fun x hx => h x (by simp [hx])
    obtain ⟨c, d⟩ := xp_pol (h m (by simp))
    rw [Cy.pr_cons, List.sum_cons]
    exact ⟨c.mul a, by rw [c.lead a, b, d]; rfl⟩
theorem tq_ok {n : Nat} (hn : 0 < n) {S : List Nat} {O : List (Nat × Nat)} (h : tqB n S O = true) {d : Nat} (hd : Pol d (pr S Phi)) (h1 : pr S Phi d = 1) :
    d ≤ 2000 ∧ ∀ k, -1000000000000 ≤ pr S Phi k ∧ pr S Phi k ≤ 1000000000000 := by
  unfold tqB at h
  simp only [Bool.and_eq_true, List.all_eq_true, decide_eq_true_eq, beq_iff_eq] at h
  obtain ⟨⟨⟨⟨⟨⟨a1, a2⟩, a3⟩, a4⟩, a5⟩, a6⟩, a7⟩ := h
  have hM : ∀ m ∈ opM O, m ∣ n := fun m hm => Nat.dvd_of_mod_eq_zero (a3 m hm)
  have hN : ∀ m ∈ opN O, m ∣ n := fun m hm => Nat.dvd_of_mod_eq_zero (a2 m hm)
  have hS : ∀ m ∈ S, m ∈ divs n := fun m hm => (Cy.mem_divs hn).2 (Nat.dvd_of_mod_eq_zero (a4 m hm))
  have e : Cy.mul (pr S Phi) (pr (opM O) xp) = pr (opN O) xp := by
    rw [pr_count (Cy.divs_nodup n) Phi hS, xps_divs hn hM, xps_divs hn hN, ← Cy.pr_mul]
    exact Cy.pr_congr fun u hu => by rw [← pw_add, a5 u hu]
  have e2 := prG_mul O Cy.one a1
  rw [Cy.one_mul, ← e] at e2
  have hun : Un (pr (opM O) xp) := Cy.un_pr fun m hm => Cy.un_xp (Nat.pos_of_dvd_of_pos (hM m hm) hn)
  have e3 : prG O Cy.one = pr S Phi := Cy.cancel hun (by rw [Cy.mul_comm _ (prG O Cy.one), e2, Cy.mul_comm])
  obtain ⟨p1, p2⟩ := pol_xps (M := opN O) fun m hm => Nat.pos_of_dvd_of_pos (hN m hm) hn
  obtain ⟨q1, q2⟩ := pol_xps (M := opM O) fun m hm => Nat.pos_of_dvd_of_pos (hM m hm) hn
  obtain ⟨_, g1, g2⟩ := Cy.deg_left e p1 p2 q1 q2 d hd
  have hdd : d ≤ (opN O).sum - (opM O).sum := by
    rcases Nat.lt_or_ge ((opN O).sum - (opM O).sum) d with hlt | hge
    · have := g1 d hlt; omega
    · exact hge
  refine ⟨by omega, fun k => ?_⟩
  by_cases hk : k ≤ (opN O).sum - (opM O).sum
  · have := bd_prG (D := (opN O).sum - (opM O).sum) (O := O) (f := Cy.one) (B := 1) a1 (fun n _ => by unfold Cy.one; split <;> omega) k hk
    rw [e3] at this
    omega
  · rw [g1 k (by omega)]; omega
end Go.Proofs.Ytkcbihmpjkkccaa
/-
  Counters: the search. No condition but that the rows are in order.
-/
namespace Go.Proofs.Ytkcbihmpjkkccaa
open Go Go.RowKit
attribute [local irreducible] AWp AOps ResIs Ret1 QOp LOp COp AFnV AFn Imms LeE LeO
set_option maxHeartbeats 1000000
set_option linter.unusedSimpArgs false
set_option linter.unusedVariables false

def cmp3 (a b : Int) : Int := if a < b then -1 else if b < a then 1 else 0
theorem comparedZ_c (a b : Int) : AFnV Try.prog 49 [.i a, .i b] (.int .i64 (cmp3 a b)) := by
  unfold cmp3
  (refine AFnV.start Try.func49 Try.ntmps49 rfl (by kernel_rfl) fun hk => ?_; simp only [Env.start, enumF, List.length_cons, List.length_nil, Nat.reduceAdd, Nat.reduceSub, List.cons_append, List.nil_append])
  repeat' (first | (apply AOps.nil; try simp only [List.nil_append, List.cons_append, List.set_cons_zero, List.set_cons_succ, List.length_cons, List.length_nil, Nat.reduceAdd, AV.sh, AV.sh1, AV.sh0, AO.sh, List.map_cons, List.map_nil, Nat.zero_add, Nat.add_zero, setAll]) | (apply w_move; exact rfl; exact rfl) | (apply w_assign; exact rfl; exact rfl) | apply AWp.seq | apply AWp.region | ((apply AWp.condP; exact rfl) <;> intro h) | apply AWp.block | apply AWp.ret | apply AWp.skip | ((first | apply w_lss | apply w_gtr); iterate 3 exact rfl))
  all_goals exact .int Try.results49 rfl (by repeat' split <;> omega)
theorem addCmp_c (l : List Int) (hl : 0 < l.length) (m : Int) : AFnV Try.prog 48 [.ints l, .i m] (.int .i64 (cmp3 (geti l 0) m)) := by
  (refine AFnV.start Try.func48 Try.ntmps48 rfl (by kernel_rfl) fun hk => ?_; simp only [Env.start, enumF, List.length_cons, List.length_nil, Nat.reduceAdd, Nat.reduceSub, List.cons_append, List.nil_append])
  repeat' (first | (apply AOps.nil; try simp only [List.nil_append, List.cons_append, List.set_cons_zero, List.set_cons_succ, List.length_cons, List.length_nil, Nat.reduceAdd, AV.sh, AV.sh1, AV.sh0, AO.sh, List.map_cons, List.map_nil, Nat.zero_add, Nat.add_zero, setAll]) | (apply w_move; exact rfl; exact rfl) | (apply w_assign; exact rfl; exact rfl) | apply AWp.seq | apply AWp.region | apply AWp.ret | (apply w_call (comparedZ_c _ _); exact rfl; exact rfl; focus ((repeat (first | exact im_nil | refine im_cons rfl (.val _) ?_)); done)) | omega | ((first | apply w_idx | apply w_ld); iterate 3 exact rfl))
  all_goals exact .int Try.results48 rfl rfl
theorem cmp3_lt {a b : Int} : cmp3 a b < 0 ↔ a < b := by unfold cmp3; repeat' split <;> omega
theorem cmp3_eq {a b : Int} : cmp3 a b = 0 ↔ a = b := by unfold cmp3; repeat' split <;> omega
theorem ResIs.intbool {P : Program} {env : Env} {os : List AO} {fn : Func} {t u : Tmp} (h : fn.results = #[.tmp t, .tmp u]) {a a' : Int} {b b' : Bool} (ht : env.fd t = some (.i a)) (hu : env.fd u = some (.b b)) (e1 : a = a') (e2 : b = b') : ResIs P fn env os (.val (.tuple #[.int .i64 a', .bool b'])) := e1 ▸ e2 ▸ .vv2 h ht hu
/-- The place of a number. -/
structure ZAt (L : List (List Int)) (m : Int) (k : Nat) : Prop where
  le : k ≤ L.length
  lt : ∀ j : Nat, j < k → geti (gets L (j : Nat)) 0 < m
  ge : ∀ j : Nat, k ≤ j → j < L.length → m ≤ geti (gets L (j : Nat)) 0
def zFd (L : List (List Int)) (m : Int) (k : Nat) : Bool := decide (k < L.length ∧ geti (gets L (k : Nat)) 0 = m)

/-- The function that compares. -/
def addF : Value := .func (.func 48) #[] #[]
set_option maxHeartbeats 4000000 in
theorem bsearch_c (L : List (List Int)) (m : Int) (k : Nat) (hk : ZAt L m k) (hn : L.length ≤ 1000000) (hr : ∀ r ∈ L, r.length = 2) :
    AFnV Try.prog 47 [.intss L, .i m, .val (.func (.func 48) #[] #[])] (.tuple #[.int .i64 k, .bool (zFd L m k)]) := by
  obtain ⟨k1, k2, k3⟩ := hk
  have hrow : ∀ i : Nat, i < L.length → (gets L (i : Nat)).length = 2 := fun i hi => hr _ (gets_mem (by omega) (by omega))
  (refine AFnV.start Try.func47 Try.ntmps47 rfl (by kernel_rfl) fun hk => ?_; simp only [Env.start, enumF, List.length_cons, List.length_nil, Nat.reduceAdd, Nat.reduceSub, List.cons_append, List.nil_append])
  repeat' (first | (apply AOps.nil; try simp only [List.nil_append, List.cons_append, List.set_cons_zero, List.set_cons_succ, List.length_cons, List.length_nil, Nat.reduceAdd, AV.sh, AV.sh1, AV.sh0, AO.sh, List.map_cons, List.map_nil, Nat.zero_add, Nat.add_zero, setAll]) | (apply w_move; exact rfl; exact rfl) | (apply w_assign; exact rfl; exact rfl) | apply AWp.seq | apply AWp.region | apply AWp.block | (apply w_len; exact rfl; exact rfl; first | exact .ints _ | exact .intss _ | exact .sli rfl | exact .sls rfl | exact .slr rfl | exact .orow rfl | exact .nil))
  refine AWp.loop (ι := Nat × Nat) (fun s => ⟨49, [(0, .intss L), (1, .i m), (2, .val addF), (8, .i L.length), (9, .i s.1), (10, .i s.2)]⟩) (fun s => []) (fun s => s.1 ≤ k ∧ k ≤ s.2 ∧ s.2 ≤ L.length) (fun s => s.2 - s.1) (0, L.length) ⟨by simp, k1, Nat.le_refl _⟩ ⟨lee rfl (by (repeat (first | exact le_nil | refine le_eq rfl rfl ?_))), by (repeat (exact lo_nil)), rfl, rfl⟩ ?_
  rintro ⟨i, j⟩ ⟨h1, h2, h3⟩
  simp only at h1 h2 h3
  by_cases hij : i < j
  · have hh : ∃ md : Nat, md = (i + j) / 2 := ⟨_, rfl⟩
    obtain ⟨md, hh⟩ := hh
    have ehz : ((i : Int) + (j : Int)) / 2 = (md : Int) := by omega
    have hl := hrow md (by omega)
    have hc := addCmp_c (gets L (md : Nat)) (by omega) m
    by_cases hlt : geti (gets L (md : Nat)) 0 < m
    · have hlt' := cmp3_lt.2 hlt
      have hhk : md < k := by
        apply Classical.byContradiction
        intro hn
        have := k3 md (by omega) (by omega)
        omega
      repeat' (first | (apply AOps.nil; try simp only [List.nil_append, List.cons_append, List.set_cons_zero, List.set_cons_succ, List.length_cons, List.length_nil, Nat.reduceAdd, AV.sh, AV.sh1, AV.sh0, AO.sh, List.map_cons, List.map_nil, Nat.zero_add, Nat.add_zero, setAll]) | ((apply AOps.splitP; exact rfl; exact rfl) <;> intro h) | (apply w_move; exact rfl; exact rfl) | (apply w_assign; exact rfl; exact rfl) | apply AWp.seq | apply AWp.region | ((apply AWp.condP; exact rfl) <;> intro h) | apply AWp.block | apply AWp.ret | apply AWp.exit | apply AWp.skip | (apply w_skip; exact rfl) | (apply w_pickF; exact rfl; exact rfl; exact rfl) | ((first | apply w_convu | apply w_convi); iterate 2 exact rfl) | ((first | apply w_shr1 | apply w_lss | apply w_add | apply w_idx | apply w_ld); iterate 3 exact rfl) | (rw [ehz]) | (apply w_callv (hc); exact rfl; exact rfl; exact rfl; focus ((repeat (first | exact im_nil | refine im_cons rfl (.val _) ?_ | refine im_cons rfl (.ints _) ?_)); done)) | omega | ((first | apply w_idxs | apply w_lds); iterate 3 exact rfl) | (apply inI_of <;> omega))
      exact ⟨(md + 1, j), ⟨hhk, h2, h3⟩, by simp only; omega, ⟨lee rfl (by (repeat (first | exact le_nil | refine le_eq rfl rfl ?_))), by (repeat (exact lo_nil)), rfl, rfl⟩⟩
    · have hlt' : ¬ cmp3 (geti (gets L (md : Nat)) 0) m < 0 := fun e => hlt (cmp3_lt.1 e)
      have hhk : k ≤ md := by
        apply Classical.byContradiction
        intro hn
        exact hlt (k2 md (by omega))
      repeat' (first | (apply AOps.nil; try simp only [List.nil_append, List.cons_append, List.set_cons_zero, List.set_cons_succ, List.length_cons, List.length_nil, Nat.reduceAdd, AV.sh, AV.sh1, AV.sh0, AO.sh, List.map_cons, List.map_nil, Nat.zero_add, Nat.add_zero, setAll]) | ((apply AOps.splitP; exact rfl; exact rfl) <;> intro h) | (apply w_move; exact rfl; exact rfl) | (apply w_assign; exact rfl; exact rfl) | apply AWp.seq | apply AWp.region | ((apply AWp.condP; exact rfl) <;> intro h) | apply AWp.block | apply AWp.ret | apply AWp.exit | apply AWp.skip | (apply w_skip; exact rfl) | (apply w_pickF; exact rfl; exact rfl; exact rfl) | ((first | apply w_convu | apply w_convi); iterate 2 exact rfl) | ((first | apply w_shr1 | apply w_lss | apply w_add | apply w_idx | apply w_ld); iterate 3 exact rfl) | (rw [ehz]) | (apply w_callv (hc); exact rfl; exact rfl; exact rfl; focus ((repeat (first | exact im_nil | refine im_cons rfl (.val _) ?_ | refine im_cons rfl (.ints _) ?_)); done)) | omega | ((first | apply w_idxs | apply w_lds); iterate 3 exact rfl) | (apply inI_of <;> omega))
      exact ⟨(i, md), ⟨h1, hhk, by simp only; omega⟩, by simp only; omega, ⟨lee rfl (by (repeat (first | exact le_nil | refine le_eq rfl rfl ?_))), by (repeat (exact lo_nil)), rfl, rfl⟩⟩
  · have ei : i = k := by omega
    subst ei
    by_cases hlen : i < L.length
    · have hl := hrow i hlen
      have hc := addCmp_c (gets L (i : Nat)) (by omega) m
      have he : decide (cmp3 (geti (gets L (i : Nat)) 0) m = 0) = zFd L m i := by
        unfold zFd
        apply decide_eq_decide.2
        rw [cmp3_eq]
        exact ⟨fun e => ⟨hlen, e⟩, fun e => e.2⟩
      repeat' (first | (apply AOps.nil; try simp only [List.nil_append, List.cons_append, List.set_cons_zero, List.set_cons_succ, List.length_cons, List.length_nil, Nat.reduceAdd, AV.sh, AV.sh1, AV.sh0, AO.sh, List.map_cons, List.map_nil, Nat.zero_add, Nat.add_zero, setAll]) | ((apply AOps.splitP; exact rfl; exact rfl) <;> intro h) | (apply w_move; exact rfl; exact rfl) | (apply w_assign; exact rfl; exact rfl) | apply AWp.seq | apply AWp.region | ((apply AWp.condP; exact rfl) <;> intro h) | apply AWp.block | apply AWp.ret | apply AWp.exit | apply AWp.skip | (apply w_skip; exact rfl) | (apply w_pickT; exact rfl; exact rfl; exact rfl) | (apply w_pickF; exact rfl; exact rfl; exact rfl) | ((first | apply w_convu | apply w_convi); iterate 2 exact rfl) | ((first | apply w_shr1 | apply w_lss | apply w_eql | apply w_add | apply w_idx | apply w_ld); iterate 3 exact rfl) | (apply w_callv (hc); exact rfl; exact rfl; exact rfl; focus ((repeat (first | exact im_nil | refine im_cons rfl (.val _) ?_ | refine im_cons rfl (.ints _) ?_)); done)) | omega | ((first | apply w_idxs | apply w_lds); iterate 3 exact rfl))
      all_goals exact .intbool Try.results47 rfl rfl rfl he
    · have he : false = zFd L m i := by
        unfold zFd
        exact (decide_eq_false fun e => hlen e.1).symm
      repeat' (first | (apply AOps.nil; try simp only [List.nil_append, List.cons_append, List.set_cons_zero, List.set_cons_succ, List.length_cons, List.length_nil, Nat.reduceAdd, AV.sh, AV.sh1, AV.sh0, AO.sh, List.map_cons, List.map_nil, Nat.zero_add, Nat.add_zero, setAll]) | ((apply AOps.splitP; exact rfl; exact rfl) <;> intro h) | (apply w_move; exact rfl; exact rfl) | (apply w_assign; exact rfl; exact rfl) | apply AWp.seq | apply AWp.region | ((apply AWp.condP; exact rfl) <;> intro h) | apply AWp.block | apply AWp.ret | apply AWp.exit | apply AWp.skip | (apply w_skip; exact rfl) | (apply w_pickF; exact rfl; exact rfl; exact rfl) | ((first | apply w_convu | apply w_convi); iterate 2 exact rfl) | ((first | apply w_shr1 | apply w_lss | apply w_add | apply w_idx); iterate 3 exact rfl) | omega)
      all_goals exact .intbool Try.results47 rfl rfl rfl he
end Go.Proofs.Ytkcbihmpjkkccaa
/-
  A term put into terms in order: the reference's. No condition but a bound on the sizes.
-/
namespace Go.Proofs.Ytkcbihmpjkkccaa
open Go Go.RowKit
attribute [local irreducible] AWp AOps ResIs Ret1 QOp LOp COp AFnV AFn Imms LeE LeO
set_option maxHeartbeats 1000000
set_option linter.unusedSimpArgs false
set_option linter.unusedVariables false


/-- The term comes ahead of (i, j). -/
def bef (i j : Int) (t : List Int) : Prop := geti t 0 + geti t 1 < i + j ∨ (geti t 0 + geti t 1 = i + j ∧ geti t 0 < i)
instance (i j : Int) (t : List Int) : Decidable (bef i j t) := by unfold bef; infer_instance
end Go.Proofs.Ytkcbihmpjkkccaa
/-
  Counters in the reference. No condition but bounds.
-/
namespace Go.Proofs.Ytkcbihmpjkkccaa
open Go Go.RowKit
attribute [local irreducible] AWp AOps ResIs Ret1 QOp LOp COp AFnV AFn Imms LeE LeO
set_option maxHeartbeats 1000000
set_option linter.unusedSimpArgs false
set_option linter.unusedVariables false

def zIdx (L : List (List Int)) (m : Int) : Nat := L.findIdx fun r => !decide (geti r 0 < m)
/-- e is added to the count of m. -/
def putZ (L : List (List Int)) (m e : Int) : List (List Int) :=
  if zIdx L m < L.length ∧ geti (L.getD (zIdx L m) []) 0 = m then L.set (zIdx L m) ((L.getD (zIdx L m) []).set 1 (geti (L.getD (zIdx L m) []) 1 + e))
  else L.take (zIdx L m) ++ [m, e] :: L.drop (zIdx L m)
/-- A number and a count of moderate size. -/
def ZOk (B : Int) (r : List Int) : Prop := r.length = 2 ∧ (1 ≤ geti r 0 ∧ geti r 0 ≤ 1000000) ∧ (-B ≤ geti r 1 ∧ geti r 1 ≤ B)
theorem zIdx_eq {L : List (List Int)} {m : Int} {n : Nat} (hn : n ≤ L.length) (h1 : ∀ k, k < n → geti (L.getD k []) 0 < m) (h2 : n = L.length ∨ ¬ geti (L.getD n []) 0 < m) : zIdx L m = n := by
  unfold zIdx
  rcases Nat.lt_or_ge n L.length with h | h
  · rw [List.findIdx_eq h]
    refine ⟨?_, fun k hk => ?_⟩
    · have := h2.resolve_left (by omega)
      rw [List.getD_eq_getElem?_getD, List.getElem?_eq_getElem h] at this
      simpa using this
    · have := h1 k hk
      rw [List.getD_eq_getElem?_getD, List.getElem?_eq_getElem (by omega)] at this
      simpa using this
  · have e : n = L.length := by omega
    subst e
    rw [List.findIdx_eq_length]
    intro t ht
    obtain ⟨k, hk⟩ := List.getElem?_of_mem ht
    have hkl := (List.getElem?_eq_some_iff.1 hk).1
    have := h1 k hkl
    rw [List.getD_eq_getElem?_getD, hk] at this
    simpa using this

end Go.Proofs.Ytkcbihmpjkkccaa
/-
  Counters: the plain law. No condition.
-/
namespace Go.Proofs.Ytkcbihmpjkkccaa
open Go Go.RowKit

/-- Rows in order of their numbers, with counts that j changes can make. -/
structure ZI (j : Nat) (L : List (List Int)) : Prop where
  row : ∀ r ∈ L, ZOk (1 + 1000 * (j : Int)) r
  len : L.length ≤ 1 + j
  srt : L.Pairwise fun a b => geti a 0 < geti b 0
theorem zi_mono {j k : Nat} {L : List (List Int)} (h : ZI j L) (hjk : j ≤ k) : ZI k L :=
  ⟨fun r hr => by have := h.row r hr; unfold ZOk at *; omega, by have := h.len; omega, h.srt⟩
theorem zi_one : ZI 0 [[1, 1]] := ⟨fun r hr => by simp at hr; subst hr; exact ⟨rfl, by decide, by decide⟩, by simp, by simp⟩
theorem zi_nil : ZI 0 [] := ⟨fun r hr => by simp at hr, by simp, by simp⟩
theorem zIdx_le (L : List (List Int)) (m : Int) : zIdx L m ≤ L.length := List.findIdx_le_length
theorem zIdx_lt {L : List (List Int)} {m : Int} {k : Nat} (hk : k < zIdx L m) : geti (L.getD k []) 0 < m := by
  have hl := zIdx_le L m
  have := List.not_of_lt_findIdx (p := fun r => !decide (geti r 0 < m)) (xs := L) hk
  rw [List.getD_eq_getElem?_getD, List.getElem?_eq_getElem (by omega)]
  simpa using this
theorem zIdx_ge {L : List (List Int)} {m : Int} (h : zIdx L m < L.length) : m ≤ geti (L.getD (zIdx L m) []) 0 := by
  have := List.findIdx_getElem (p := fun r => !decide (geti r 0 < m)) (xs := L) (w := h)
  rw [List.getD_eq_getElem?_getD, List.getElem?_eq_getElem h]
  simp only [Option.getD_some]
  simp at this
  exact this
theorem srt_at {L : List (List Int)} (h : L.Pairwise fun a b => geti a 0 < geti b 0) {a b : Nat} (hab : a < b) (hb : b < L.length) : geti (L.getD a []) 0 < geti (L.getD b []) 0 := by
  have := (List.pairwise_iff_getElem.1 h) a b (by omega) hb hab
  rw [List.getD_eq_getElem?_getD, List.getElem?_eq_getElem (by omega), List.getD_eq_getElem?_getD, List.getElem?_eq_getElem hb]
  exact this
theorem zat {j : Nat} {L : List (List Int)} (h : ZI j L) (m : Int) : ZAt L m (zIdx L m) := by
  refine ⟨zIdx_le L m, fun k hk => ?_, fun k hk hl => ?_⟩
  · have := zIdx_lt hk
    unfold gets; rw [Int.toNat_natCast]; exact this
  · have hz := zIdx_ge (L := L) (m := m) (by omega)
    unfold gets; rw [Int.toNat_natCast]
    by_cases e : k = zIdx L m
    · rw [e]; exact hz
    · have := srt_at h.srt (a := zIdx L m) (b := k) (by omega) hl
      omega
theorem at_mem {L : List (List Int)} {k : Nat} (h : k < L.length) : L.getD k [] ∈ L := by
  rw [List.getD_eq_getElem?_getD, List.getElem?_eq_getElem h]; exact List.getElem_mem h
theorem zi_put {j : Nat} {L : List (List Int)} (h : ZI j L) {m e : Int} (hm : 1 ≤ m ∧ m ≤ 1000000) (he : -1000 ≤ e ∧ e ≤ 1000) : ZI (j + 1) (putZ L m e) := by
  have h' := zi_mono h (Nat.le_succ j)
  have hzl := zIdx_le L m
  unfold putZ
  split
  · rename_i hc
    obtain ⟨hc1, hc2⟩ := hc
    have hr := h.row _ (at_mem hc1)
    have hnew : ZOk (1 + 1000 * ((j + 1 : Nat) : Int)) ((L.getD (zIdx L m) []).set 1 (geti (L.getD (zIdx L m) []) 1 + e)) ∧ geti ((L.getD (zIdx L m) []).set 1 (geti (L.getD (zIdx L m) []) 1 + e)) 0 = geti (L.getD (zIdx L m) []) 0 := by
      generalize L.getD (zIdx L m) [] = r at hr ⊢
      obtain ⟨h1, h2, h3⟩ := hr
      match r, h1 with
      | [a, b], _ =>
        have h2' : 1 ≤ a ∧ a ≤ 1000000 := h2
        have h3' : -(1 + 1000 * (j : Int)) ≤ b ∧ b ≤ 1 + 1000 * (j : Int) := h3
        exact ⟨⟨rfl, h2', by show -(1 + 1000 * ((j + 1 : Nat) : Int)) ≤ b + e ∧ b + e ≤ 1 + 1000 * ((j + 1 : Nat) : Int); omega⟩, rfl⟩
    refine ⟨fun r hr => ?_, by rw [List.length_set]; exact h'.len, ?_⟩
    · rcases List.mem_or_eq_of_mem_set hr with hr | rfl
      · exact h'.row r hr
      · exact hnew.1
    · rw [List.pairwise_iff_getElem]
      intro a b ha hb hab
      rw [List.length_set] at ha hb
      have hs := srt_at h.srt hab hb
      rw [List.getD_eq_getElem?_getD, List.getElem?_eq_getElem ha, List.getD_eq_getElem?_getD, List.getElem?_eq_getElem hb] at hs
      simp only [Option.getD_some] at hs
      have key : ∀ (k : Nat) (hk : k < (L.set (zIdx L m) ((L.getD (zIdx L m) []).set 1 (geti (L.getD (zIdx L m) []) 1 + e))).length) (hk' : k < L.length), geti ((L.set (zIdx L m) ((L.getD (zIdx L m) []).set 1 (geti (L.getD (zIdx L m) []) 1 + e)))[k]) 0 = geti L[k] 0 := by
        intro k hk hk'
        rw [List.getElem_set]
        split
        · rename_i e1
          subst e1
          rw [hnew.2, List.getD_eq_getElem?_getD, List.getElem?_eq_getElem hc1]
          rfl
        · rfl
      rw [key a _ ha, key b _ hb]
      exact hs
  · rename_i hc
    have hgt : zIdx L m < L.length → m < geti (L.getD (zIdx L m) []) 0 := fun hl => by
      have := zIdx_ge hl
      have : geti (L.getD (zIdx L m) []) 0 ≠ m := fun e => hc ⟨hl, e⟩
      omega
    refine ⟨fun r hr => ?_, ?_, ?_⟩
    · rcases List.mem_append.1 hr with hr | hr
      · exact h'.row r (List.mem_of_mem_take hr)
      · rcases List.mem_cons.1 hr with rfl | hr
        · exact ⟨rfl, hm, by show -(1 + 1000 * ((j + 1 : Nat) : Int)) ≤ e ∧ e ≤ 1 + 1000 * ((j + 1 : Nat) : Int); omega⟩
        · exact h'.row r (List.mem_of_mem_drop hr)
    · have := h.len
      simp
      omega
    · rw [List.pairwise_append]
      refine ⟨h.srt.sublist (List.take_sublist _ _), ?_, fun a ha b hb => ?_⟩
      · rw [List.pairwise_cons]
        refine ⟨fun b hb => ?_, h.srt.sublist (List.drop_sublist _ _)⟩
        obtain ⟨k, hk, rfl⟩ := List.getElem_of_mem hb
        rw [List.length_drop] at hk
        rw [List.getElem_drop]
        have h1 := hgt (by omega)
        have e0 : geti [m, e] 0 = m := rfl
        rw [e0]
        by_cases ek : k = 0
        · subst ek
          rw [List.getD_eq_getElem?_getD, List.getElem?_eq_getElem (by omega)] at h1
          exact h1
        · have := srt_at h.srt (a := zIdx L m) (b := zIdx L m + k) (by omega) (by omega)
          rw [List.getD_eq_getElem?_getD (i := zIdx L m + k), List.getElem?_eq_getElem (by omega)] at this
          simp only [Option.getD_some] at this
          omega
      · obtain ⟨k, hk, rfl⟩ := List.getElem_of_mem ha
        have hk' : k < zIdx L m := by rw [List.length_take] at hk; omega
        have h1 := zIdx_lt hk'
        rw [List.getD_eq_getElem?_getD, List.getElem?_eq_getElem (by omega)] at h1
        rw [List.getElem_take]
        rcases List.mem_cons.1 hb with rfl | hb
        · exact h1
        · obtain ⟨k2, hk2, rfl⟩ := List.getElem_of_mem hb
          rw [List.length_drop] at hk2
          rw [List.getElem_drop]
          have := (List.pairwise_iff_getElem.1 h.srt) k (zIdx L m + k2) (by omega) (by omega) (by omega)
          exact this
end Go.Proofs.Ytkcbihmpjkkccaa
/-
  slices.Insert at slices of rows: one row more. No condition but a bound on the size.
-/
namespace Go.Proofs.Ytkcbihmpjkkccaa
open Go Go.RowKit Go.Lib
set_option linter.unusedVariables false
set_option linter.unusedSimpArgs false

set_option maxHeartbeats 4000000 in
set_option maxRecDepth 100000 in
/-- At the end. -/
theorem ins_end_k (base b n c vb vc : Nat) (cs : List Value) (rv : Value) (w : World) (hown : w.ownsRow base 26 1 (.slice (some ⟨b, 0, none⟩) n c) n cs) (hv : w.cell? ⟨vb, 0, none⟩ = some rv) (h1 : rv.oneCell' = true)
    (hn : n ≤ 1000000) (hbase : base ≤ w.heap.size) :
    Calls Try.prog 50 #[.slice (some ⟨b, 0, none⟩) n c, .int .i64 n, .slice (some ⟨vb, 0, none⟩) 1 vc] w fun ev w' =>
      ∃ s', ev = .returned s' ∧ w'.ownsRow base 26 1 s' (n + 1) (cs ++ [rv]) ∧ w.grownBy w' (some b) ∧ (s'.ownBlock = some b ∨ s'.ownBlock = some w.heap.size) := by
  have hc : n ≤ c ∧ c ≤ 9223372036854775807 := by
    rcases hown.2 with ⟨h, _⟩ | ⟨g, cap, cur, h, _, _, h4, h5, _⟩
    · cases h
    · cases h; unfold maxLen at h5; omega
  obtain ⟨ii, hi, hs, hz, hby⟩ := (inferInstance : TElem Try.prog 26 (.slice none 0 0) 24).info
  have ht : Try.prog.underlying 30 = some (.slice 26) := (inferInstance : TSlice Try.prog 30 26).und
  have hnews : ∀ j u, [rv][j]? = some u → w.cell? ((⟨vb, 0, none⟩ : Addr).add j) = some u := fun j u hj => by
    match j, hj with
    | 0, hj => simp at hj; subst hj; rw [Addr.add_zero']; exact hv
  have hones : ∀ u ∈ [rv], u.oneCell' = true := fun u hu => by simp at hu; subst hu; exact h1
  have h63 : n + 1 ≤ maxLen := by unfold maxLen; omega
  have hb24 : (n + 1) * 24 ≤ 140737488355328 := by omega
  obtain ⟨v', w1, r1, r2, r3, r4, r5⟩ := run_append_own_at (P := Try.prog) w base 30 30 26 ii _ 1 24 ht hi hz hs hby rfl (by omega) (.slice (some ⟨b, 0, none⟩) n c) n cs hown ⟨vb, 0, none⟩ 1 vc [rv] (by simp) hnews hones h63 hb24 hbase
  by_cases hcn : c = n
  · subst hcn
    go_enter Try.func50, Try.ntmps50
    go_wp2_with (at_builtin; refine Lib.wpList_append_run _ rfl _ _ _ _ rfl _ _ rfl rfl _ _ r1 ?_)
    go_ret
    exact ⟨_, rfl, r2, r3, r5⟩
  · go_enter Try.func50, Try.ntmps50
    go_wp2_with (at_builtin; refine Lib.wpList_append_run _ rfl _ _ _ _ rfl _ _ rfl rfl _ _ r1 ?_)
    go_ret
    exact ⟨_, rfl, r2, r3, r5⟩
set_option maxHeartbeats 4000000 in
set_option maxRecDepth 100000 in
/-- To no slice. -/
theorem ins_nil_k (base vb vc : Nat) (rv : Value) (w : World) (hv : w.cell? ⟨vb, 0, none⟩ = some rv) (h1 : rv.oneCell' = true) (hbase : base ≤ w.heap.size) :
    Calls Try.prog 50 #[.slice none 0 0, .int .i64 0, .slice (some ⟨vb, 0, none⟩) 1 vc] w fun ev w' =>
      ∃ s', ev = .returned s' ∧ w'.ownsRow base 26 1 s' 1 [rv] ∧ w.grownBy w' none ∧ (s'.ownBlock = none ∨ s'.ownBlock = some w.heap.size) := by
  obtain ⟨ii, hi, hs, hz, hby⟩ := (inferInstance : TElem Try.prog 26 (.slice none 0 0) 24).info
  have ht : Try.prog.underlying 30 = some (.slice 26) := (inferInstance : TSlice Try.prog 30 26).und
  have hnews : ∀ j u, [rv][j]? = some u → w.cell? ((⟨vb, 0, none⟩ : Addr).add j) = some u := fun j u hj => by
    match j, hj with
    | 0, hj => simp at hj; subst hj; rw [Addr.add_zero']; exact hv
  have hones : ∀ u ∈ [rv], u.oneCell' = true := fun u hu => by simp at hu; subst hu; exact h1
  obtain ⟨v', w1, r1, r2, r3, r4, r5⟩ := run_append_own_at (P := Try.prog) w base 30 30 26 ii _ 1 24 ht hi hz hs hby rfl (by omega) (.slice none 0 0) 0 [] (World.ownsRow_nil _ _ _ _) ⟨vb, 0, none⟩ 1 vc [rv] (by simp) hnews hones (by simp [maxLen]) (by omega) hbase
  go_enter Try.func50, Try.ntmps50
  go_wp2_with (at_builtin; refine Lib.wpList_append_run _ rfl _ _ _ _ rfl _ _ rfl rfl _ _ r1 ?_)
  go_ret
  exact ⟨_, rfl, by simpa using r2, r3, r5⟩
end Go.Proofs.Ytkcbihmpjkkccaa
/-
  slices.Insert at slices of rows: one row more, ahead of others, where there is room. No condition but a bound on the size.
-/
namespace Go.Proofs.Ytkcbihmpjkkccaa
open Go Go.RowKit Go.Lib

theorem owns_setCells {base b n c : Nat} {e : TypeId} : ∀ (vs : List Value) (o : Nat) (w : World) (xs : List Value), w.ownsRow base e 1 (.slice (some ⟨b, 0, none⟩) n c) n xs → o + vs.length ≤ n →
    (w.setCells b o vs).ownsRow base e 1 (.slice (some ⟨b, 0, none⟩) n c) n (xs.take o ++ vs ++ xs.drop (o + vs.length))
  | [], o, w, xs, h, _ => by simpa [World.setCells] using h
  | v :: r, o, w, xs, h, hl => by
    have hn : xs.length = n := by have := h.1; omega
    have h1 := (h.stored o v).1
    have ih := owns_setCells r (o + 1) _ _ h1 (by simp at hl; omega)
    rw [World.setCells]
    simp only [List.length_cons] at hl ⊢
    have e1 : (xs.set o v).take (o + 1) ++ r ++ (xs.set o v).drop (o + 1 + r.length) = xs.take o ++ v :: r ++ xs.drop (o + (r.length + 1)) := by
      rw [List.take_succ_eq_append_getElem (by rw [List.length_set]; omega), List.getElem_set_self, List.take_set_of_le (Nat.le_refl _), List.drop_set_of_lt (by omega), show o + 1 + r.length = o + (r.length + 1) by omega]
      simp
    rw [← e1]
    exact ih
end Go.Proofs.Ytkcbihmpjkkccaa
/-
  slices.Insert at slices of rows: one row more, ahead of others, where there is room. No condition but a bound on the size.
-/
namespace Go.Proofs.Ytkcbihmpjkkccaa
open Go Go.RowKit Go.Lib
set_option linter.unusedVariables false
set_option linter.unusedSimpArgs false

theorem owns_more {base b n c : Nat} {e : TypeId} {w : World} {cs : List Value} (h : w.ownsRow base e 1 (.slice (some ⟨b, 0, none⟩) n c) n cs) (hn : n + 1 ≤ c) : ∃ u, w.ownsRow base e 1 (.slice (some ⟨b, 0, none⟩) (n + 1) c) (n + 1) (cs ++ [u]) := by
  rcases h.2 with ⟨h', _⟩ | ⟨g, cap, cur, h', hb, hg, hnc, hcm, hcs, ht⟩
  · cases h'
  · cases h'
    have hlen : n < cur.toList.length := by simp; omega
    refine ⟨cur.toList[n], ⟨by have := h.1; simp; omega, .inr ⟨b, c, cur, rfl, hb, hg, hn, hcm, hcs, ?_⟩⟩⟩
    rw [Nat.mul_one] at ht ⊢
    rw [List.take_succ_eq_append_getElem hlen, ht]

set_option maxHeartbeats 8000000 in
set_option maxRecDepth 100000 in
theorem ins_shift_k (base b n c i vb vc : Nat) (cs : List Value) (rv : Value) (w : World) (hown : w.ownsRow base 26 1 (.slice (some ⟨b, 0, none⟩) n c) n cs) (hvown : w.ownsRow base 26 1 (.slice (some ⟨vb, 0, none⟩) 1 vc) 1 [rv])
    (h1 : rv.oneCell' = true) (h1c : ∀ v ∈ cs, v.oneCell' = true) (hi : i < n) (hroom : n + 1 ≤ c) (hvb : vb ≠ b) (hn : n ≤ 1000000) (hbase : base ≤ w.heap.size) :
    Calls Try.prog 50 #[.slice (some ⟨b, 0, none⟩) n c, .int .i64 i, .slice (some ⟨vb, 0, none⟩) 1 vc] w fun ev w' =>
      ev = .returned (.slice (some ⟨b, 0, none⟩) (n + 1) c) ∧ w' = (w.drew.setCells b (i + 1) (cs.drop i)).setCells b i [rv] := by
  obtain ⟨ii, hii, hs, hz, hby⟩ := (inferInstance : TElem Try.prog 26 (.slice none 0 0) 24).info
  have ht : Try.prog.underlying 30 = some (.slice 26) := (inferInstance : TSlice Try.prog 30 26).und
  have hcl : cs.length = n := by have := hown.1; omega
  obtain ⟨u, hown1⟩ := owns_more hown hroom
  have hsz : (Try.prog.info? 26).map (·.size) = some 1 := by rw [hii]; simp [hs]
  have hsize : ∀ w, (Go.sizeOf 26).run Try.prog w = .ok 1 w := fun w => by simp [Go.sizeOf, typeInfo, hii, hs]
  have hc63 : c ≤ 9223372036854775807 := by
    rcases hown.2 with ⟨h, _⟩ | ⟨g, cap, cur, h, _, _, h4, h5, _⟩
    · cases h
    · cases h; unfold maxLen at h5; omega
  have hshape : ∃ k, k ≠ 0 ∧ w.shape? b = some (26, k) := by
    rcases hown.2 with ⟨h, _⟩ | ⟨g, cap, cur, h, _, hg, h4, h5, h6, _⟩
    · cases h
    · cases h; exact ⟨cur.size, by omega, by simp [World.shape?, hg]⟩
  obtain ⟨kB, hkB, hsb⟩ := hshape
  have hshapev : ∃ k, w.shape? vb = some (26, k) := by
    rcases hvown.2 with ⟨h, _⟩ | ⟨g, cap, cur, h, _, hg, _⟩
    · cases h
    · cases h; exact ⟨cur.size, by simp [World.shape?, hg]⟩
  obtain ⟨kA, hsa⟩ := hshapev
  have hcs : ∀ j v, cs[j]? = some v → w.cell? ⟨b, j, none⟩ = some v := fun j v hj => by
    have hjl := (List.getElem?_eq_some_iff.1 hj).1
    rw [hown.cellAt j (by omega)]; exact hj
  have hsp : ∀ j, j < n + 1 → (w.cell? ⟨b, j, none⟩).isSome = true := fun j hj => by
    have hl1 := hown1.1
    rw [hown1.cellAt j (by omega), List.getElem?_eq_getElem (by omega)]; rfl
  have hfz : ∀ j, w.frozen? ⟨b, j, none⟩ = false := fun j => hown.frozenAt j
  have hv0 : w.cell? ⟨vb, 0, none⟩ = some rv := by rw [hvown.cellAt 0 (by omega)]; rfl
  have hov : ∀ lb cb, (callFunc 55 #[.slice (some ⟨vb, 0, none⟩) 1 vc, .slice (some ⟨b, i + 1, none⟩) lb cb]).run Try.prog w = .ok (.value (.bool false)) w := fun lb cb => by
    rw [run_callFunc_extern Try.func55 (by kernel_rfl) (by kernel_rfl) (by kernel_rfl) (e := Extern.SlicesOverlaps.overlaps #[30, 30] #[4]) (by kernel_rfl),
      Lib.run_overlaps_apart w 30 4 26 ht 1 hsize ⟨vb, 0, none⟩ ⟨b, i + 1, none⟩ 1 vc lb cb hvb _ _ kA kB hsa hsb hkB (hvown.frozenAt 0) (hvown.frozenAt kA)]
    rfl
  have hdl : (cs.drop i).length = n - i := by rw [List.length_drop, hcl]
  have hin : i ≤ n := by omega
  have htn : ((i : Int) + 1).toNat = i + 1 := by omega
  have hcp1 : ∀ ty dc sc, (Builtin.copy_ #[30, 30] ty #[.slice (some ⟨b, i + 1, none⟩) (n - i) dc, .slice (some ⟨b, i, none⟩) (n + 1 - i) sc]).run Try.prog w.drew = .ok (goInt (cs.drop i).length) (w.drew.setCells b (i + 1) (cs.drop i)) := fun ty dc sc =>
    run_copy_cells w.drew _ _ ty 26 b (i + 1) (n - i) dc ⟨b, i, none⟩ (n + 1 - i) sc (cs.drop i) ht hsz (by rw [hdl]; simp only [Nat.min_def]; split <;> omega)
      (fun j v hj => by rw [Addr.add_lit]; exact hcs (i + j) v (by rwa [List.getElem?_drop] at hj))
      (fun j hj => hsp _ (by omega)) (fun j hj => hfz _) (fun v hv => h1c v (List.mem_of_mem_drop hv))
  obtain ⟨W1, hW1⟩ : ∃ W1, W1 = w.drew.setCells b (i + 1) (cs.drop i) := ⟨_, rfl⟩
  have hsp1 : ∀ k, k < n + 1 → (W1.cell? ⟨b, k, none⟩).isSome = true := fun k hk => by
    rw [hW1]
    exact isSome_setCells b (cs.drop i) (i + 1) w.drew (fun j hj => hsp _ (by rw [hdl] at hj; omega)) k (hsp k hk)
  have hcp2 : ∀ (W : World), (∀ x, W.cell? x = W1.cell? x) → (∀ x, W.frozen? x = W1.frozen? x) → ∀ ty dc, (Builtin.copy_ #[30, 30] ty #[.slice (some ⟨b, i, none⟩) (n + 1 - i) dc, .slice (some ⟨vb, 0, none⟩) 1 vc]).run Try.prog W = .ok (goInt 1) (W.setCells b i [rv]) := fun W hWc hWf ty dc =>
    run_copy_cells W _ _ ty 26 b i (n + 1 - i) dc ⟨vb, 0, none⟩ 1 vc [rv] ht hsz (by simp only [List.length_cons, List.length_nil, Nat.min_def]; split <;> omega)
      (fun j v hj => by
        match j, hj with
        | 0, hj =>
          simp at hj; subst hj
          rw [Addr.add_zero', hWc, hW1, World.cell?_setCells_out b _ _ _ _ (fun h _ => absurd h hvb)]
          exact hv0)
      (fun j hj => by rw [hWc]; exact hsp1 _ (by simp at hj; omega)) (fun j hj => by rw [hWf, hW1, World.frozen?_setCells]; exact hfz _) (fun v hv => by simp at hv; subst hv; exact h1)
  rw [← hW1] at hcp1
  have hz2 : ¬ ((i : Int) = (n : Int)) := by omega
  have mixed : Try.prog.follows Departure.mixedOrders = true := by kernel_rfl
  have hb2 : ¬ (c = i + 1) := by omega
  have hb4 : ¬ (c = i) := by omega
  have hw1 : IntKind.i64.wrap ((i : Int) + 1) = (i : Int) + 1 := by rw [IntKind.wrap_i64]; omega
  have hb1 : (0 : Int) ≤ (i : Int) + 1 := by omega
  have hb3 : (i : Int) ≤ (n : Int) + 1 := by omega
  go_enter Try.func50, Try.ntmps50
  go_wp2_with (simp only [hov])
  go_region_law_o (refine step_copy_runI rfl _ _ 30 30 rfl _ _ (by simp [Act.eval, Act.put]) (by simp [Act.eval, Act.put]) (hcp1 _ _ _) ?_)
  go_wp2_with (at_builtin; refine wpList_copy_runI _ rfl _ _ 30 30 rfl _ _ rfl rfl (hcp2 _ (fun _ => rfl) (fun _ => rfl) _ _) ?_)
  go_ret
  first | exact ⟨rfl, rfl⟩ | exact ⟨rfl, by rw [hW1]⟩
end Go.Proofs.Ytkcbihmpjkkccaa
/-
  slices.Insert at slices of rows: one row more, ahead of others, where there is no room. No condition but a bound on the size.
-/
namespace Go.Proofs.Ytkcbihmpjkkccaa
open Go Go.RowKit Go.Lib
set_option linter.unusedVariables false
set_option linter.unusedSimpArgs false

set_option maxHeartbeats 8000000 in
set_option maxRecDepth 100000 in
theorem ins_grow_k (base b n c i vb vc : Nat) (cs : List Value) (rv : Value) (w : World) (hown : w.ownsRow base 26 1 (.slice (some ⟨b, 0, none⟩) n c) n cs) (hvown : w.ownsRow base 26 1 (.slice (some ⟨vb, 0, none⟩) 1 vc) 1 [rv])
    (h1 : rv.oneCell' = true) (h1c : ∀ v ∈ cs, v.oneCell' = true) (hi : i < n) (hroom : c < n + 1) (hn : n ≤ 1000000) (hbase : base ≤ w.heap.size) :
    Calls Try.prog 50 #[.slice (some ⟨b, 0, none⟩) n c, .int .i64 i, .slice (some ⟨vb, 0, none⟩) 1 vc] w fun ev w' =>
      ∃ (G : Nat) (ROW : Array Value), n + 1 ≤ G ∧ G ≤ maxLen ∧ ROW.size = G ∧ ev = .returned (.slice (some ⟨w.heap.size, 0, none⟩) (n + 1) G) ∧
        w' = (((w.alloc (.cells ROW 26)).drew.setCells w.heap.size i [rv]).drew).setCells w.heap.size (i + 1) (cs.drop i) ∧ ROW.toList.take i = cs.take i := by
  obtain ⟨ii, hii, hs, hz, hby⟩ := (inferInstance : TElem Try.prog 26 (.slice none 0 0) 24).info
  have ht : Try.prog.underlying 30 = some (.slice 26) := (inferInstance : TSlice Try.prog 30 26).und
  have ht3 : Try.prog.underlying 3 = some (.int .i64) := (inferInstance : TKind Try.prog 3 .i64).und
  have hcl : cs.length = n := by have := hown.1; omega
  have hsz : (Try.prog.info? 26).map (·.size) = some 1 := by rw [hii]; simp [hs]
  have hnc : n ≤ c := by
    rcases hown.2 with ⟨h, _⟩ | ⟨g, cap, cur, h, _, _, h4, h5, _⟩
    · cases h
    · cases h; exact h4
  have hcs : ∀ j v, cs[j]? = some v → w.cell? ⟨b, j, none⟩ = some v := fun j v hj => by
    have hjl := (List.getElem?_eq_some_iff.1 hj).1
    rw [hown.cellAt j (by omega)]; exact hj
  have hv0 : w.cell? ⟨vb, 0, none⟩ = some rv := by rw [hvown.cellAt 0 (by omega)]; rfl
  have hbw : b < w.heap.size := World.block_lt_of_cell? w _ (hcs 0 _ (List.getElem?_eq_getElem (by omega)))
  have hvw : vb < w.heap.size := World.block_lt_of_cell? w _ hv0
  have hkk : (n : Int) + 1 - (i : Int) = ((n + 1 - i : Nat) : Int) := by omega
  have hik : i + (n + 1 - i) = n + 1 := by omega
  have hold : (Builtin.firstCells ii.size i (.slice (some ⟨b, 0, none⟩) i c)).run Try.prog w.drew = .ok (cs.take i).toArray w.drew := by
    rw [hs]
    exact run_firstCells_some w.drew 1 i ⟨b, 0, none⟩ i c (cs.take i) (by rw [List.length_take]; omega) (fun j v hj => by
      rw [Addr.add_lit, Nat.zero_add]
      rw [List.getElem?_take] at hj
      split at hj
      · exact hcs j v hj
      · cases hj)
  have hrz : ∀ ty, (Builtin.append_ #[30, 3] ty #[.slice (some ⟨b, 0, none⟩) i c, .int .i64 ((n : Int) + 1 - (i : Int))]).run Try.prog w =
      .ok (.slice (some ⟨w.heap.size, 0, none⟩) (n + 1) (grownCap w (n + 1) c 26)) (w.drew.alloc (.cells ((cs.take i).toArray ++ Builtin.zeroCells (Value.slice none 0 0).cells (n + 1 - i) ++ Builtin.zeroCells (Value.slice none 0 0).cells (grownCap w (n + 1) c 26 - (n + 1))) 26)) := fun ty => by
    have h := Lib.run_append_grow_zeros w 30 3 ty 26 ii _ .i64 .i64 ht ht3 hii hz (some ⟨b, 0, none⟩) i c (cs.take i) hold (n + 1 - i) (by omega) (by omega) (by omega) (by omega) (by rw [hby]; omega) (by rw [hby, hik]; exact growslice_fits hroom (by omega))
    rw [hik] at h
    rw [hkk]
    exact h
  have hGn : n + 1 ≤ grownCap w (n + 1) c 26 := grownCap_ge w _ _ _
  have hGm : grownCap w (n + 1) c 26 ≤ maxLen := grownCap_le_maxLen w (n + 1) c 26 (by unfold maxLen; omega)
  generalize grownCap w (n + 1) c 26 = G at hrz hGn hGm
  obtain ⟨ROW, hROW⟩ : ∃ ROW : Array Value, ROW = (cs.take i).toArray ++ Builtin.zeroCells (Value.slice none 0 0).cells (n + 1 - i) ++ Builtin.zeroCells (Value.slice none 0 0).cells (G - (n + 1)) := ⟨_, rfl⟩
  rw [← hROW] at hrz
  have hRs : ROW.size = G := by
    rw [hROW]
    simp [Builtin.zeroCells, Value.cells]
    omega
  have hRt : ROW.toList.take i = cs.take i := by
    rw [hROW]
    simp only [Array.toList_append, List.append_assoc]
    rw [List.take_append_of_le_length (by simp; omega), List.take_of_length_le (by simp; omega)]
  have hG63 : G ≤ 9223372036854775807 := by unfold maxLen at hGm; omega
  have hRl : n + 1 ≤ ROW.size := by omega
  obtain ⟨W1, hW1⟩ : ∃ W1, W1 = w.drew.alloc (.cells ROW 26) := ⟨_, rfl⟩
  rw [← hW1] at hrz
  have hN : ∀ j, j < n + 1 → (W1.cell? ⟨w.heap.size, j, none⟩).isSome = true := fun j hj => by
    rw [hW1, World.cell?_alloc_at (w := w.drew) ROW _ w.heap.size j rfl, Array.getElem?_eq_getElem (by omega)]; rfl
  have hNf : ∀ j, W1.frozen? ⟨w.heap.size, j, none⟩ = false := fun j => by rw [hW1]; exact World.frozen?_alloc_at (w := w.drew) ROW _ w.heap.size j rfl
  have hOb : ∀ j v, w.cell? ⟨b, j, none⟩ = some v → W1.cell? ⟨b, j, none⟩ = some v := fun j v h => by rw [hW1, World.cell?_alloc_past (w := w.drew) _ b j hbw]; exact h
  have hOv : ∀ j v, w.cell? ⟨vb, j, none⟩ = some v → W1.cell? ⟨vb, j, none⟩ = some v := fun j v h => by rw [hW1, World.cell?_alloc_past (w := w.drew) _ vb j hvw]; exact h
  have hcpA : ∀ (W : World), (∀ x, W.cell? x = W1.cell? x) → (∀ x, W.frozen? x = W1.frozen? x) → ∀ ty dc, (Builtin.copy_ #[30, 30] ty #[.slice (some ⟨w.heap.size, i, none⟩) (n + 1 - i) dc, .slice (some ⟨vb, 0, none⟩) 1 vc]).run Try.prog W = .ok (goInt 1) (W.setCells w.heap.size i [rv]) := fun W hWc hWf ty dc =>
    run_copy_cells W _ _ ty 26 w.heap.size i (n + 1 - i) dc ⟨vb, 0, none⟩ 1 vc [rv] ht hsz (by simp only [List.length_cons, List.length_nil, Nat.min_def]; split <;> omega)
      (fun j v hj => by
        match j, hj with
        | 0, hj =>
          simp at hj; subst hj
          rw [Addr.add_zero', hWc]
          exact hOv _ _ hv0)
      (fun j hj => by rw [hWc]; exact hN _ (by simp at hj; omega)) (fun j hj => by rw [hWf]; exact hNf _) (fun v hv => by simp at hv; subst hv; exact h1)
  have hGi : ¬ (G = i) := by omega
  have hGim : ¬ (G = i + 1) := by omega
  have hci : ¬ (c = i) := by omega
  have hbN : b ≠ w.heap.size := by omega
  have hdl : (cs.drop i).length = n - i := by rw [List.length_drop, hcl]
  have hcpB : ∀ (W : World), (∀ x, W.cell? x = (W1.setCells w.heap.size i [rv]).cell? x) → (∀ x, W.frozen? x = (W1.setCells w.heap.size i [rv]).frozen? x) → ∀ ty dc sc, (Builtin.copy_ #[30, 30] ty #[.slice (some ⟨w.heap.size, i + 1, none⟩) (n - i) dc, .slice (some ⟨b, i, none⟩) (n - i) sc]).run Try.prog W = .ok (goInt (cs.drop i).length) (W.setCells w.heap.size (i + 1) (cs.drop i)) := fun W hWc hWf ty dc sc =>
    run_copy_cells W _ _ ty 26 w.heap.size (i + 1) (n - i) dc ⟨b, i, none⟩ (n - i) sc (cs.drop i) ht hsz (by rw [hdl]; simp only [Nat.min_def]; split <;> omega)
      (fun j v hj => by
        rw [Addr.add_lit, hWc, World.cell?_setCells_out _ _ _ _ _ (fun h _ => absurd h hbN)]
        exact hOb _ v (hcs (i + j) v (by rwa [List.getElem?_drop] at hj)))
      (fun j hj => by rw [hWc]; exact isSome_setCells _ _ _ _ (fun t ht => hN _ (by simp at ht; omega)) _ (hN _ (by omega)))
      (fun j hj => by rw [hWf, World.frozen?_setCells]; exact hNf _) (fun v hv => h1c v (List.mem_of_mem_drop hv))
  subst hW1
  have hE1 : ∀ x, ((w.alloc (.cells ROW 26)).drew).cell? x = (w.drew.alloc (.cells ROW 26)).cell? x := fun x => rfl
  have hE2 : ∀ x, ((w.alloc (.cells ROW 26)).drew).frozen? x = (w.drew.alloc (.cells ROW 26)).frozen? x := fun x => rfl
  have hF1 : ∀ x, (((w.alloc (.cells ROW 26)).drew.setCells w.heap.size i [rv]).drew).cell? x = ((w.drew.alloc (.cells ROW 26)).setCells w.heap.size i [rv]).cell? x := fun x => rfl
  have hF2 : ∀ x, (((w.alloc (.cells ROW 26)).drew.setCells w.heap.size i [rv]).drew).frozen? x = ((w.drew.alloc (.cells ROW 26)).setCells w.heap.size i [rv]).frozen? x := fun x => rfl
  have mixed : Try.prog.follows Departure.mixedOrders = true := by kernel_rfl
  have hz2 : ¬ ((i : Int) = (n : Int)) := by omega
  have hz3 : (c : Int) < (n : Int) + 1 := by omega
  have hw1 : IntKind.i64.wrap ((i : Int) + 1) = (i : Int) + 1 := by rw [IntKind.wrap_i64]; omega
  have hb1 : (0 : Int) ≤ (i : Int) + 1 := by omega
  have hin : i ≤ n := by omega
  have htn : ((i : Int) + 1).toNat = i + 1 := by omega
  have hb3 : (i : Int) ≤ (n : Int) := by omega
  have hb4 : (i : Int) ≤ (n : Int) + 1 := by omega
  refine Calls.mono (R := fun ev w' => ev = .returned (.slice (some ⟨w.heap.size, 0, none⟩) (n + 1) G) ∧ w' = (((w.alloc (.cells ROW 26)).drew.setCells w.heap.size i [rv]).drew).setCells w.heap.size (i + 1) (cs.drop i)) ?_ (fun ev w' ⟨q1, q2⟩ => ⟨G, ROW, hGn, hGm, hRs, q1, q2, hRt⟩)
  clear hkk hik hold hRl hRs hRt hROW
  go_enter Try.func50, Try.ntmps50
  go_wp2_with (first
    | (at_builtin; refine Lib.wpList_append_run _ rfl _ _ _ _ rfl _ _ rfl rfl _ _ (hrz _) ?_)
    | (at_builtin; refine wpList_copy_runI _ rfl _ _ 30 30 rfl _ _ rfl rfl (hcpA _ hE1 hE2 _ _) ?_)
    | (at_builtin; refine wpList_copy_runI _ rfl _ _ 30 30 rfl _ _ rfl rfl (hcpB _ (fun _ => rfl) (fun _ => rfl) _ _ _) ?_))
  go_region_law_o (refine step_copy_runI rfl _ _ 30 30 rfl (.slice (some ⟨w.heap.size, i + 1, none⟩) (n - i) (G - (i + 1))) (.slice (some ⟨b, i, none⟩) (n - i) (c - i)) (by simp [Act.eval, Act.put]) (by simp [Act.eval, Act.put]) (hcpB _ hF1 hF2 3 (G - (i + 1)) (c - i)) ?_)
  go_wp2
  go_ret
  exact ⟨rfl, rfl⟩
end Go.Proofs.Ytkcbihmpjkkccaa
/-
  slices.Insert at slices of rows: one row more. No condition but a bound on the size.
-/
namespace Go.Proofs.Ytkcbihmpjkkccaa
open Go Go.RowKit Go.Lib
set_option linter.unusedVariables false
set_option linter.unusedSimpArgs false

theorem ins_list {cs A : List Value} {rv : Value} {i n : Nat} (hn : cs.length = n) (hi : i < n) (hA : A.take i = cs.take i) (hl : A.length = n + 1) :
    ((A.take i ++ [rv] ++ A.drop (i + 1)).take (i + 1) ++ cs.drop i ++ (A.take i ++ [rv] ++ A.drop (i + 1)).drop (i + 1 + (cs.drop i).length)) = cs.take i ++ rv :: cs.drop i := by
  have e1 : (A.take i ++ [rv]).length = i + 1 := by simp; omega
  have e2 : (A.take i ++ [rv] ++ A.drop (i + 1)).drop (i + 1 + (cs.drop i).length) = [] := List.drop_of_length_le (by rw [List.length_append, e1, List.length_drop, List.length_drop]; omega)
  have e3 : (A.take i ++ [rv] ++ A.drop (i + 1)).take (i + 1) = A.take i ++ [rv] := by rw [List.take_append_of_le_length (by omega), List.take_of_length_le (by omega)]
  rw [e2, e3, List.append_nil, hA, List.append_assoc]
  rfl
theorem ins_list2 {cs : List Value} {u rv : Value} {i n : Nat} (hn : cs.length = n) (hi : i < n) :
    (((cs ++ [u]).take (i + 1) ++ cs.drop i ++ (cs ++ [u]).drop (i + 1 + (cs.drop i).length)).take i ++ [rv] ++ ((cs ++ [u]).take (i + 1) ++ cs.drop i ++ (cs ++ [u]).drop (i + 1 + (cs.drop i).length)).drop (i + [rv].length)) = cs.take i ++ rv :: cs.drop i := by
  have hl : ((cs ++ [u]).take (i + 1)).length = i + 1 := by simp; omega
  have e1 : (cs ++ [u]).drop (i + 1 + (cs.drop i).length) = [] := List.drop_of_length_le (by simp; omega)
  rw [e1, List.append_nil, List.length_singleton, List.take_append_of_le_length (by omega), List.take_take, Nat.min_eq_left (by omega), List.take_append_of_le_length (by omega), List.drop_append_of_le_length (by omega), List.drop_of_length_le (by omega)]
  simp
theorem ins_k (base vb vc i : Nat) (s : Value) (cs : List Value) (rv : Value) (w : World) (hown : w.ownsRow base 26 1 s cs.length cs) (hvown : w.ownsRow base 26 1 (.slice (some ⟨vb, 0, none⟩) 1 vc) 1 [rv])
    (h1 : rv.oneCell' = true) (h1c : ∀ v ∈ cs, v.oneCell' = true) (hi : i ≤ cs.length) (hap : s.ownBlock ≠ some vb) (hn : cs.length ≤ 1000000) (hbase : base ≤ w.heap.size) :
    Calls Try.prog 50 #[s, .int .i64 i, .slice (some ⟨vb, 0, none⟩) 1 vc] w fun ev w' =>
      ∃ s', ev = .returned s' ∧ w'.ownsRow base 26 1 s' (cs.length + 1) (cs.take i ++ rv :: cs.drop i) ∧ Below base w w' ∧ (∀ k, k < w.heap.size → some k ≠ s.ownBlock → w'.heap[k]? = w.heap[k]?) ∧ (s'.ownBlock = s.ownBlock ∨ s'.ownBlock = some w.heap.size) := by
  have hv0 : w.cell? ⟨vb, 0, none⟩ = some rv := by rw [hvown.cellAt 0 (by omega)]; rfl
  rcases hown.2 with ⟨rfl, h0⟩ | ⟨b, c, cur, rfl, hb, hg, hnc, hcm, hcs, htk⟩
  · obtain rfl : cs = [] := List.length_eq_zero_iff.1 h0
    obtain rfl : i = 0 := by simpa using hi
    refine (ins_nil_k base vb vc rv w hv0 h1 hbase).mono ?_
    rintro ev w' ⟨s', e1, e2, e3, e4⟩
    exact ⟨s', e1, by simpa using e2, (Below.refl _ _).grown e3 hbase (fun k hk => by cases hk), e3.block, e4⟩
  · rcases Nat.lt_or_ge i cs.length with hlt | hge
    · rcases Nat.lt_or_ge c (cs.length + 1) with hr | hr
      · refine (ins_grow_k base b cs.length c i vb vc cs rv w hown hvown h1 h1c hlt hr hn hbase).mono ?_
        rintro ev w' ⟨G, ROW, g1, g2, g3, e1, e2, e3⟩
        have o1 : (w.alloc (.cells ROW 26)).drew.ownsRow base 26 1 (.slice (some ⟨w.heap.size, 0, none⟩) (cs.length + 1) G) (cs.length + 1) (ROW.toList.take (cs.length + 1)) := by
          refine ⟨by simp; omega, .inr ⟨w.heap.size, G, ROW, rfl, hbase, heap_alloc_new w _, g1, g2, by omega, by rw [Nat.mul_one]⟩⟩
        have o2 := owns_setCells [rv] i _ _ o1 (by simp; omega)
        have o3 : ((w.alloc (.cells ROW 26)).drew.setCells w.heap.size i [rv]).drew.ownsRow base 26 1 (.slice (some ⟨w.heap.size, 0, none⟩) (cs.length + 1) G) (cs.length + 1) ((ROW.toList.take (cs.length + 1)).take i ++ [rv] ++ (ROW.toList.take (cs.length + 1)).drop (i + [rv].length)) := o2
        have o4 := owns_setCells (cs.drop i) (i + 1) _ _ o3 (by simp; omega)
        have hl : (ROW.toList.take (cs.length + 1)).length = cs.length + 1 := by simp; omega
        have ht : (ROW.toList.take (cs.length + 1)).take i = cs.take i := by rw [List.take_take, Nat.min_eq_left (by omega), e3]
        rw [List.length_singleton, ins_list rfl hlt ht hl] at o4
        have bl : Below base w ((((w.alloc (.cells ROW 26)).drew.setCells w.heap.size i [rv]).drew).setCells w.heap.size (i + 1) (cs.drop i)) :=
          below_setCells hbase _ _ _ (Below.drew (below_setCells hbase _ _ _ (Below.drew ((below_alloc w _).mono hbase))))
        have bl2 : Below w.heap.size w ((((w.alloc (.cells ROW 26)).drew.setCells w.heap.size i [rv]).drew).setCells w.heap.size (i + 1) (cs.drop i)) :=
          below_setCells (Nat.le_refl _) _ _ _ (Below.drew (below_setCells (Nat.le_refl _) _ _ _ (Below.drew (below_alloc w _))))
        subst e2
        exact ⟨_, e1, o4, bl, fun k hk _ => bl2.block k hk, .inr rfl⟩
      · refine (ins_shift_k base b cs.length c i vb vc cs rv w hown hvown h1 h1c hlt hr (fun e => hap (by rw [← e]; rfl)) hn hbase).mono ?_
        rintro ev w' ⟨e1, e2⟩
        obtain ⟨u, o1⟩ := owns_more hown hr
        have o1' : w.drew.ownsRow base 26 1 (.slice (some ⟨b, 0, none⟩) (cs.length + 1) c) (cs.length + 1) (cs ++ [u]) := o1
        have o2 := owns_setCells (cs.drop i) (i + 1) _ _ o1' (by simp; omega)
        have o3 := owns_setCells [rv] i _ _ o2 (by simp; omega)
        rw [ins_list2 rfl hlt] at o3
        subst e2
        refine ⟨_, e1, o3, below_setCells hb _ _ _ (below_setCells hb _ _ _ (Below.drew (Below.refl _ _))), fun k hk hne => ?_, .inl rfl⟩
        have hkb : k ≠ b := fun e => hne (by rw [e]; rfl)
        have sz := (below_setCells (Nat.zero_le b) (cs.drop i) (i + 1) w.drew (Below.drew (Below.refl 0 w))).size
        have hk1 : k < w.drew.heap.size := hk
        rw [World.heap_setCells_other _ _ _ _ (Nat.lt_of_lt_of_le hk sz) hkb, World.heap_setCells_other _ _ _ _ hk1 hkb]
        rfl
    · obtain rfl : i = cs.length := by omega
      refine (ins_end_k base b cs.length c vb vc cs rv w hown hv0 h1 hn hbase).mono ?_
      rintro ev w' ⟨s', e1, e2, e3, e4⟩
      refine ⟨s', e1, by simpa using e2, (Below.refl _ _).grown e3 hbase (fun k hk => by cases hk; exact hb), e3.block, e4⟩
end Go.Proofs.Ytkcbihmpjkkccaa
/-
  slices.Insert as an operation of the engine: one row more. No condition but a bound on the size.
-/
namespace Go.Proofs.Ytkcbihmpjkkccaa
open Go Go.RowKit
set_option linter.unusedVariables false
set_option linter.unusedSimpArgs false

theorem ins_get {α : Type} (l : List α) (x : α) {i : Nat} (hi : i ≤ l.length) (j : Nat) : (l.take i ++ x :: l.drop i)[j]? = if j < i then l[j]? else if j = i then some x else l[j - 1]? := by
  have hl : (l.take i).length = i := by simp; omega
  by_cases h1 : j < i
  · rw [if_pos h1, List.getElem?_append_left (by omega), List.getElem?_take_of_lt h1]
  · rw [if_neg h1, List.getElem?_append_right (by omega), hl]
    by_cases h2 : j = i
    · rw [if_pos h2, h2, Nat.sub_self]; rfl
    · rw [if_neg h2]
      obtain ⟨k, hk⟩ : ∃ k, j - i = k + 1 := ⟨j - i - 1, by omega⟩
      rw [hk, List.getElem?_cons_succ, List.getElem?_drop]
      congr 1
      omega
theorem ins_getD {α : Type} (l : List α) (x d : α) {i : Nat} (hi : i ≤ l.length) (j : Nat) : (l.take i ++ x :: l.drop i).getD j d = if j < i then l.getD j d else if j = i then x else l.getD (j - 1) d := by
  simp only [List.getD_eq_getElem?_getD, ins_get l x hi]
  by_cases h1 : j < i
  · rw [if_pos h1, if_pos h1]
  · rw [if_neg h1, if_neg h1]
    by_cases h2 : j = i
    · rw [if_pos h2, if_pos h2]; rfl
    · rw [if_neg h2, if_neg h2]
theorem ins_flat (bs : List (List Nat)) (c : List Nat) (i : Nat) : (bs.take i ++ c :: bs.drop i).flatten.Perm (c ++ bs.flatten) := by
  have e : bs.flatten = (bs.take i).flatten ++ (bs.drop i).flatten := by rw [← List.flatten_append, List.take_append_drop]
  rw [List.flatten_append, List.flatten_cons, e, ← List.append_assoc, ← List.append_assoc]
  exact List.Perm.append_right _ List.perm_append_comm

section
variable {env : Env} {os : List AO} {d : Option Tmp} {ty : TypeId} {pos : String} {af : Array Edge} {g : Option (Nat × Bool)}
set_option maxHeartbeats 2000000 in
theorem c_insert {x y z : Operand} {ats : Array TypeId} {h m i : Nat} {e2 : TypeId} {L : List (List Int)} {row : List Int} (hx : AV.ev env x = .own h) (hs : os[h]? = some (.sls 26 e2 L)) (hy : AV.ev env y = .i i) (hi : i ≤ L.length) (hz : AV.ev env z = .own m) (hm : os[m]? = some (.sls 26 e2 [row])) (hhm : (h == m) = false) (hn : L.length ≤ 1000000) :
    COp Try.prog ⟨d, .call { callee := .value (.func 50), args := #[x, y, z], argTypes := ats }, ty, pos, af, g⟩ env os
      (fun r en o => r = .own h ∧ en = env.mp (AV.lose h) ∧ o = ((os.map (AO.via (AV.lose h) h)).set h (.sls 26 e2 (L.take i ++ row :: L.drop i))).set m .dead) := by
  have hne : h ≠ m := by simpa using hhm
  have hbd : HasBody Try.prog 50 := ⟨_, _, Try.func50, by kernel_rfl, rfl⟩
  intro base w gs tm hr
  have hxv := hr.ev x
  have hzv := hr.ev z
  have hyv := hr.evv hy
  rw [hx] at hxv
  rw [hz] at hzv
  generalize hv : Act.eval ⟨tm, []⟩ x = v at hxv
  generalize hu : Act.eval ⟨tm, []⟩ z = u at hzv
  cases hxv with
  | @own _ gh hg =>
  cases hzv with
  | @own _ gm hgm =>
    obtain ⟨vs, bs, mb, a1, a2, a3, a4, a5, a6, a7, a8⟩ := hr.ho _ _ _ hg hs
    obtain ⟨vs1, bs1, mb1, b1, b2, b3, b4, b5, b6, b7, b8⟩ := hr.ho _ _ _ hgm hm
    match vs1, b2 with
    | [rv], _ =>
    match bs1, b3 with
    | [bm], _ =>
    obtain ⟨q1, q2, q3⟩ := b5 0 rv rfl
    simp only [List.getD_cons_zero] at q1 q2 q3
    obtain ⟨vb, vc, ev, eo, _, _⟩ := own_slice b1 (i := 0) (by simp)
    have b1' := b1
    rw [ev] at b1'
    have hgh : ∀ b, gh.v.ownBlock = some b → b ∈ gh.bl := fun b hb => main_sub a7 a6 hb
    have hgv : vb ∈ gm.bl := main_sub b7 b6 eo
    have hdis : ∀ c, c ∈ gm.bl → c ∉ gh.bl := hr.hd m h gm gh _ _ (fun e => hne e.symm) hgm hg hm hs (by simp) (by simp)
    have hbl0 : ∀ b, b ∈ gh.bl → b < w.heap.size := fun b hb => (hr.hn _ _ _ hg hs (by simp) b hb).2
    have hblm : ∀ b, b ∈ gm.bl → b < w.heap.size := fun b hb => (hr.hn _ _ _ hgm hm (by simp) b hb).2
    have one1 : rv.oneCell' = true := by obtain ⟨a, c, e⟩ := ownsRow_slice q1; rw [e]; rfl
    have oneC : ∀ v ∈ vs, v.oneCell' = true := fun v hvm => by
      obtain ⟨j, hj⟩ := List.getElem?_of_mem hvm
      obtain ⟨a, c, e⟩ := ownsRow_slice (a5 j v hj).1
      rw [e]; rfl
    have hk := ins_k base vb vc i gh.v vs rv w a1 b1' one1 oneC (by omega) (fun e => hdis vb hgv (hgh vb e)) (by omega) hr.hb
    refine ⟨_, _, run_call hbd [x, y, z] ats _ rfl w, ?_⟩
    have eargs : ([x, y, z].map (Act.eval ⟨tm, []⟩)).toArray = #[gh.v, .int .i64 i, .slice (some ⟨vb, 0, none⟩) 1 vc] := by
      simp [hv, hu, hyv, ev]
    rw [eargs]
    refine hk.mono ?_
    rintro en w' ⟨s', rfl, r2, rb, rf, r5⟩
    have hhg : h < gs.length := (List.getElem?_eq_some_iff.1 hg).1
    let g' : Gh := ⟨s', s'.ownBlock.getD 0, s'.ownBlock.toList ++ (bs.take i ++ bm :: bs.drop i).flatten, vs.take i ++ rv :: vs.drop i⟩
    have hpm := ins_flat bs bm i
    have hmemf : ∀ b, b ∈ (bs.take i ++ bm :: bs.drop i).flatten → b ∈ bm ∨ b ∈ bs.flatten := fun b hb => List.mem_append.1 (hpm.mem_iff.1 hb)
    have subr : ∀ b, b ∈ bs.flatten → b ∈ gh.bl := fun b hb => by rw [a7]; exact List.mem_append.2 (.inr hb)
    have subm : ∀ b, b ∈ bm → b ∈ gm.bl := fun b hb => by rw [b7]; exact List.mem_append.2 (.inr (by simpa using hb))
    have a8' : (mb ++ bs.flatten).Nodup := by rw [← a7]; exact a8
    have b8' : (mb1 ++ bm).Nodup := by have := b8; rw [b7] at this; simpa using this
    have emb : ∀ b, gh.v.ownBlock = some b → b ∈ mb := fun b hb => by
      rcases a6 with ⟨c1, _⟩ | ⟨c1, c2⟩
      · rw [c1] at hb; cases hb
      · rw [c1] at hb; cases hb; rw [c2]; simp
    have mbfl : ∀ b, b ∈ mb → b ∉ bs.flatten := fun b hb hb2 => (List.nodup_append.1 a8').2.2 b hb b hb2 rfl
    have keepR : ∀ c, c ∈ bs.flatten → w'.heap[c]? = w.heap[c]? := fun c hc => rf c (hbl0 c (subr c hc)) fun e => mbfl c (emb c e.symm) hc
    have keepM : ∀ c, c ∈ gm.bl → w'.heap[c]? = w.heap[c]? := fun c hc => rf c (hblm c hc) fun e => hdis c hc (hgh c e.symm)
    have hlt : ∀ b, s'.ownBlock = some b → b < w'.heap.size := by
      intro b hb
      rcases r2.2 with ⟨e1, _⟩ | ⟨gg, cc, cur, e1, _, hgg, _⟩
      · rw [e1] at hb; cases hb
      · rw [e1] at hb; cases hb; exact (Array.getElem?_eq_some_iff.1 hgg).1
    have hs'b : ∀ b, b ∈ s'.ownBlock.toList → s'.ownBlock = some b := fun b hb => by
      cases hvb : s'.ownBlock with
      | none => rw [hvb] at hb; simp at hb
      | some c => rw [hvb] at hb; simp at hb; rw [hb]
    have hmain : ∀ b, s'.ownBlock = some b → b ∈ gh.bl ∨ w.heap.size ≤ b := fun b hb => by
      rcases r5 with r5 | r5
      · left; rw [hb] at r5; exact hgh b r5.symm
      · right; rw [hb] at r5; cases r5; exact Nat.le_refl _
    have rowblk : ∀ (j : Nat) u, vs[j]? = some u → ∀ c, u.ownBlock = some c → c ∈ bs.flatten := by
      intro j u hj c hc
      have hjb : j < bs.length := by
        have := (List.getElem?_eq_some_iff.1 hj).1
        omega
      exact List.mem_flatten.2 ⟨bs.getD j [], by rw [List.getD_eq_getElem?_getD, List.getElem?_eq_getElem hjb]; simp, by rw [← (a5 j u hj).2.2, hc]; simp⟩
    refine ⟨s', .own h, _, _, gs.set h g', rfl, ⟨rfl, rfl, rfl⟩, hr.absorb hg hs trivial hgm hm trivial hne g' _ (AV.lose h) rfl (fun b hb hnb => rf b hb fun e => hnb (hgh b e.symm)) rb.size ?_ (fun kp hv => hv.lose kp) ?_, .own (by rw [List.getElem?_set_self hhg]), rb⟩
    · intro b hb
      rcases List.mem_append.1 hb with hb | hb
      · have hb' := hs'b b hb
        refine ⟨?_, hlt b hb'⟩
        rcases hmain b hb' with h1 | h1
        · exact .inl h1
        · exact .inr (.inr h1)
      · rcases hmemf b hb with hb | hb
        · exact ⟨.inr (.inl (subm b hb)), Nat.lt_of_lt_of_le (hblm b (subm b hb)) rb.size⟩
        · exact ⟨.inl (subr b hb), Nat.lt_of_lt_of_le (hbl0 b (subr b hb)) rb.size⟩
    · intro kp
      have hlen : (vs.take i ++ rv :: vs.drop i).length = vs.length + 1 := by simp; omega
      refine ⟨vs.take i ++ rv :: vs.drop i, bs.take i ++ bm :: bs.drop i, s'.ownBlock.toList, by rw [hlen]; exact r2, by rw [hlen]; simp; omega, by simp; omega, rfl, fun j u hj => ?_, ?_, rfl, ?_⟩
      · rw [ins_get vs rv (by omega)] at hj
        rw [ins_getD L row [] hi, ins_getD bs bm [] (by omega)]
        split at hj
        · rename_i h1
          obtain ⟨p1, p2, p3⟩ := a5 j u hj
          rw [if_pos h1, if_pos h1]
          exact ⟨ownsRow_of_block p1 fun c hc => keepR c (rowblk j u hj c hc), p2, p3⟩
        · rename_i h1
          rw [if_neg h1, if_neg h1]
          split at hj
          · rename_i h2
            cases hj
            rw [if_pos h2, if_pos h2]
            exact ⟨ownsRow_of_block q1 fun c hc => keepM c (subm c (by rw [← q3, hc]; simp)), q2, q3⟩
          · rename_i h2
            rw [if_neg h2, if_neg h2]
            obtain ⟨p1, p2, p3⟩ := a5 (j - 1) u hj
            exact ⟨ownsRow_of_block p1 fun c hc => keepR c (rowblk (j - 1) u hj c hc), p2, p3⟩
      · show (s'.ownBlock = none ∧ s'.ownBlock.toList = []) ∨ (s'.ownBlock = some (s'.ownBlock.getD 0) ∧ s'.ownBlock.toList = [s'.ownBlock.getD 0])
        cases s'.ownBlock with
        | none => exact .inl ⟨rfl, rfl⟩
        | some b => exact .inr ⟨rfl, rfl⟩
      · show (s'.ownBlock.toList ++ (bs.take i ++ bm :: bs.drop i).flatten).Nodup
        have nd : (bm ++ bs.flatten).Nodup := by
          rw [List.nodup_append]
          exact ⟨(List.nodup_append.1 b8').2.1, (List.nodup_append.1 a8').2.1, fun x hx y hy e => hdis x (subm x hx) (subr x (by rw [e]; exact hy))⟩
        rw [List.nodup_append]
        refine ⟨by cases s'.ownBlock <;> simp, hpm.nodup_iff.2 nd, fun x hx y hy e => ?_⟩
        subst e
        have hx' := hs'b x hx
        rcases hmemf x hy with h1 | h1
        · rcases r5 with r5 | r5
          · rw [hx'] at r5; exact hdis x (subm x h1) (hgh x r5.symm)
          · rw [hx'] at r5; cases r5; exact absurd (hblm _ (subm _ h1)) (Nat.lt_irrefl _)
        · rcases r5 with r5 | r5
          · rw [hx'] at r5; exact mbfl x (emb x r5.symm) h1
          · rw [hx'] at r5; cases r5; exact absurd (hbl0 _ (subr _ h1)) (Nat.lt_irrefl _)
end
section
variable {env : Env} {os : List AO} {d : Tmp} {ty : TypeId} {pos : String} {af : Array Edge} {l rest : List Oper} {K : APost}
theorem w_insrow {x y z : Operand} {ats : Array TypeId} {h m i : Nat} {e2 : TypeId} {L : List (List Int)} {row : List Int} (hx : evo env x = some (.own h)) (hs : os[h]? = some (.sls 26 e2 L)) (hy : evo env y = some (.i i)) (hz : evo env z = some (.own m)) (hm : os[m]? = some (.sls 26 e2 [row])) (hhm : (h == m) = false) (hi : i ≤ L.length) (hn : L.length ≤ 1000000)
    (h' : AOps Try.prog .seq l rest K (Env.up (env.mp (AV.lose h)) d (.own h)) (((os.map (AO.via (AV.lose h) h)).set h (.sls 26 e2 (L.take i ++ row :: L.drop i))).set m .dead)) :
    AOps Try.prog .seq l (⟨some d, .call { callee := .value (.func 50), args := #[x, y, z], argTypes := ats }, ty, pos, af, none⟩ :: rest) K env os :=
  AOps.ca (c_insert (ev_of hx) hs (ev_of hy) hi (ev_of hz) hm hhm hn) fun r en o ⟨h1, h2, h3⟩ => by subst h1; subst h2; subst h3; exact h'
end
end Go.Proofs.Ytkcbihmpjkkccaa
/-
  Functions without results that write to what they are handed. No condition.
-/
namespace Go.Proofs.Ytkcbihmpjkkccaa
open Go Go.RowKit
theorem AFnUN.of {P : Program} {f : FuncId} {fn : Func} {c : Code} {args : List AV} {os : List AO} {Q : Value → List AO → Prop} {n : Nat} (hf : P.funcs[f]? = some fn) (hb : fn.body = some c) (hnm : (fn.name == "runtime.NumGoroutine") = false) (hn : fn.ntmps - args.length = n)
    (h : ∀ K, AWp P c (fun env os1 => ∃ v os', ResIs P fn env os1 (.val v) ∧ Q v os' ∧ os1.take os.length = os' ∧ os1[os.length]? = some (.keep (os.length + 1) K) ∧ ∀ o ∈ os', o.plain) (fun _ _ _ => False) (fun env os1 => ∃ v os', ResIs P fn env os1 (.val v) ∧ Q v os' ∧ os1.take os.length = os' ∧ os1[os.length]? = some (.keep (os.length + 1) K) ∧ ∀ o ∈ os', o.plain) (Env.start args n) (os ++ [.keep (os.length + 1) K])) :
    AFnU P f args os Q := by
  refine ⟨⟨fn, c, hf, hnm, hb⟩, fun base w gs vs hbase hO hsz hvs => calls_of_wp hf hb ?_⟩
  rw [show fn.ntmps - vs.size = n by rw [hsz]; exact hn]
  let bl : List Nat := (List.range w.heap.size).filter fun b => decide (base ≤ b) && gs.all fun g => !g.bl.contains b
  let gk : Gh := ⟨undef, 0, bl, []⟩
  let K : Kp := ⟨fun b => w.heap[b]?, gs ++ [gk]⟩
  have hbl : ∀ b, b ∈ bl ↔ b < w.heap.size ∧ base ≤ b ∧ ∀ (h : Nat) g, gs[h]? = some g → b ∉ g.bl := by
    intro b
    simp only [bl, List.mem_filter, List.mem_range, Bool.and_eq_true, decide_eq_true_eq, List.all_eq_true, Bool.not_eq_true', List.contains_eq_mem, decide_eq_false_iff_not]
    constructor
    · rintro ⟨h1, h2, h3⟩
      exact ⟨h1, h2, fun h g hg => h3 g (List.mem_of_getElem? hg)⟩
    · rintro ⟨h1, h2, h3⟩
      exact ⟨h1, h2, fun g hg => by obtain ⟨i, hi⟩ := List.getElem?_of_mem hg; exact h3 i g hi⟩
  have hl := hO.hl
  have part : ∀ {i : Nat} {x : Gh} {y : AO}, (gs ++ [gk])[i]? = some x → (os ++ [.keep (os.length + 1) K])[i]? = some y → (gs[i]? = some x ∧ os[i]? = some y) ∨ (i = os.length ∧ x = gk ∧ y = .keep (os.length + 1) K) := by
    intro i x y hx hy
    rcases append_one hx with ⟨h1, h2⟩ | ⟨h1, rfl⟩
    · rcases append_one hy with ⟨h3, h4⟩ | ⟨h3, rfl⟩
      · exact .inl ⟨h2, h4⟩
      · omega
    · rcases append_one hy with ⟨h3, h4⟩ | ⟨h3, rfl⟩
      · omega
      · exact .inr ⟨h3, rfl, rfl⟩
  have gl : ∀ (i : Nat) x, gs[i]? = some x → (gs ++ [gk])[i]? = some x := fun i x e => by
    rw [List.getElem?_append_left (List.getElem?_eq_some_iff.1 e).1]; exact e
  have kp : Keeps (okOf gs os) (okOf (gs ++ [gk]) (os ++ [.keep (os.length + 1) K])) w w := by
    intro b hbk _
    refine ⟨fun i x y hx hy hny hm => ?_, rfl⟩
    rcases part hx hy with ⟨h1, h2⟩ | ⟨_, _, rfl⟩
    · exact hbk i x y h1 h2 hny hm
    · exact hny.elim
  have hrel : Rel base w (gs ++ [gk]) (Env.start args n) (os ++ [.keep (os.length + 1) K]) (vs ++ Array.replicate n undef) := by
    refine ⟨hbase, by simp [hl], by simp [Env.start, hsz], fun i => ?_, ?_, ?_, ?_⟩
    · exact start_rv args n vs (fun i => (hvs i).mono kp gl) i
    · intro i x y hx hy
      rcases part hx hy with ⟨h1, h2⟩ | ⟨_, rfl, rfl⟩
      · exact (hO.hp y (List.mem_of_getElem? h2)).ro (hO.ho i x y h1 h2)
      · exact ⟨fun b _ => rfl, by simp [K, hl], fun i x h => h⟩
    · intro i j g1 g2 o1 o2 hij hg1 hg2 ho1 ho2 _ _ b hb1 hb2
      rcases part hg1 ho1 with ⟨a1, a2⟩ | ⟨a1, rfl, _⟩
      · rcases part hg2 ho2 with ⟨b1, b2⟩ | ⟨_, rfl, _⟩
        · exact hO.hd i j g1 g2 hij a1 b1 b hb1 hb2
        · exact ((hbl b).1 hb2).2.2 i g1 a1 hb1
      · rcases part hg2 ho2 with ⟨b1, b2⟩ | ⟨b1, _, _⟩
        · exact ((hbl b).1 hb1).2.2 j g2 b1 hb2
        · omega
    · intro i x y hx hy _ b hb
      rcases part hx hy with ⟨h1, h2⟩ | ⟨_, rfl, _⟩
      · exact hO.hn i x h1 b hb
      · exact ⟨((hbl b).1 hb).2.1, ((hbl b).1 hb).1⟩
  refine wp_mono (h K base w w _ _ hrel (Below.refl _ _)) ?_
  intro e a w' hq
  cases e with
  | normal =>
    obtain ⟨env, os1, gs1, hr, hd, hbel, v, os', h1, h2, h3, h4, h5⟩ := hq
    obtain ⟨u, hu, hv⟩ := h1 _ _ _ _ hr
    cases hv
    have hlt : os.length < os1.length := (List.getElem?_eq_some_iff.1 h4).1
    have hltg : os.length < gs1.length := by have := hr.hl; omega
    obtain ⟨g1, hg1⟩ : ∃ g1, gs1[os.length]? = some g1 := ⟨_, List.getElem?_eq_getElem hltg⟩
    obtain ⟨r1, r2, r3⟩ := hr.ho _ _ _ hg1 h4
    have pin : ∀ (i : Nat) x, gs[i]? = some x → gs1[i]? = some x := fun i x e => r3 i x (gl i x e)
    have egk : g1 = gk := by
      have := r3 os.length gk (by show (gs ++ [gk])[os.length]? = some gk; rw [← hl]; simp)
      rw [hg1] at this
      exact Option.some.inj this
    rw [egk] at r1
    have get' : ∀ {i : Nat} {y : AO}, os'[i]? = some y → os1[i]? = some y ∧ i < os.length := by
      intro i y hy
      rw [← h3, List.getElem?_take] at hy
      split at hy
      · exact ⟨hy, ‹_›⟩
      · cases hy
    refine ⟨hd, v, hu, v, os', rfl, h2, ⟨?_, h5, ?_, hO.hd, ?_⟩, hbel, ?_⟩
    · rw [← h3, List.length_take]; omega
    · intro i x y hx hy
      obtain ⟨h6, h7⟩ := get' hy
      exact (h5 y (List.mem_of_getElem? hy)).ro (hr.ho i x y (pin i x hx) h6)
    · intro i x hx b hb
      have := hO.hn i x hx b hb
      exact ⟨this.1, Nat.lt_of_lt_of_le this.2 hbel.size⟩
    · intro b hb hnot
      rcases Nat.lt_or_ge b base with h6 | h6
      · exact hbel.block b h6
      · exact r1 b ((hbl b).2 ⟨hb, h6, hnot⟩)
  | exit j => obtain ⟨_, _, _, _, _, _, hx⟩ := hq; exact hx.elim
  | ret =>
    obtain ⟨env, os1, gs1, hr, hd, hbel, v, os', h1, h2, h3, h4, h5⟩ := hq
    obtain ⟨u, hu, hv⟩ := h1 _ _ _ _ hr
    cases hv
    have hlt : os.length < os1.length := (List.getElem?_eq_some_iff.1 h4).1
    have hltg : os.length < gs1.length := by have := hr.hl; omega
    obtain ⟨g1, hg1⟩ : ∃ g1, gs1[os.length]? = some g1 := ⟨_, List.getElem?_eq_getElem hltg⟩
    obtain ⟨r1, r2, r3⟩ := hr.ho _ _ _ hg1 h4
    have pin : ∀ (i : Nat) x, gs[i]? = some x → gs1[i]? = some x := fun i x e => r3 i x (gl i x e)
    have egk : g1 = gk := by
      have := r3 os.length gk (by show (gs ++ [gk])[os.length]? = some gk; rw [← hl]; simp)
      rw [hg1] at this
      exact Option.some.inj this
    rw [egk] at r1
    have get' : ∀ {i : Nat} {y : AO}, os'[i]? = some y → os1[i]? = some y ∧ i < os.length := by
      intro i y hy
      rw [← h3, List.getElem?_take] at hy
      split at hy
      · exact ⟨hy, ‹_›⟩
      · cases hy
    refine ⟨hd, v, hu, v, os', rfl, h2, ⟨?_, h5, ?_, hO.hd, ?_⟩, hbel, ?_⟩
    · rw [← h3, List.length_take]; omega
    · intro i x y hx hy
      obtain ⟨h6, h7⟩ := get' hy
      exact (h5 y (List.mem_of_getElem? hy)).ro (hr.ho i x y (pin i x hx) h6)
    · intro i x hx b hb
      have := hO.hn i x hx b hb
      exact ⟨this.1, Nat.lt_of_lt_of_le this.2 hbel.size⟩
    · intro b hb hnot
      rcases Nat.lt_or_ge b base with h6 | h6
      · exact hbel.block b h6
      · exact r1 b ((hbl b).2 ⟨hb, h6, hnot⟩)
  | goto l => exact (hq : False).elim
  | panic ch => exact (hq : False).elim
  | outgrown => exact (hq : False).elim


theorem AFnUN.start {P : Program} {f : FuncId} {fn : Func} {c : Code} {args : List AV} {objs : List AO} {Q : Value → List AO → Prop} {m : Nat} (hf : P.funcs[f]? = some fn) (hn : fn.ntmps = m) (hb : fn.body = some c) (hnm : (fn.name == "runtime.NumGoroutine") = false)
    (h : ∀ K, AWp P c (fun env os1 => ∃ v os', ResIs P fn env os1 (.val v) ∧ Q v os' ∧ os1.take objs.length = os' ∧ os1[objs.length]? = some (.keep (objs.length + 1) K) ∧ ∀ o ∈ os', o.plain) (fun _ _ _ => False) (fun env os1 => ∃ v os', ResIs P fn env os1 (.val v) ∧ Q v os' ∧ os1.take objs.length = os' ∧ os1[objs.length]? = some (.keep (objs.length + 1) K) ∧ ∀ o ∈ os', o.plain) (Env.start args (m - args.length)) (objs ++ [.keep (objs.length + 1) K])) :
    AFnU P f args objs Q := AFnUN.of hf hb hnm (by rw [hn]) h
theorem ResIs.unit {P : Program} {fn : Func} {env : Env} {os : List AO} (h : fn.results = #[]) : ResIs P fn env os (.val (.tuple #[])) :=
  fun _ _ _ tm hr => ⟨.tuple #[], by unfold results; rw [h]; simp, .val _⟩
end Go.Proofs.Ytkcbihmpjkkccaa
/-
  Counters: a count is added. No condition but bounds.
-/
namespace Go.Proofs.Ytkcbihmpjkkccaa
open Go Go.RowKit
attribute [local irreducible] AWp AOps ResIs Ret1 QOp LOp COp AFnV AFn Imms LeE LeO
set_option maxHeartbeats 1000000
set_option linter.unusedSimpArgs false
set_option linter.unusedVariables false

set_option maxHeartbeats 4000000 in
theorem add_c (j : Nat) (L : List (List Int)) (hZ : ZI j L) (hj : j ≤ 900000) (m e : Int) (hm : 1 ≤ m ∧ m ≤ 1000000) (he : -1000 ≤ e ∧ e ≤ 1000) :
    AFnP Try.prog 35 [.int .i64 m, .int .i64 e] 60 26 2 L (putZ L m e) (.tuple #[]) := by
  have hlen := hZ.len
  have hb := bsearch_c L m (zIdx L m) (zat hZ m) (by omega) (fun r hr => (hZ.row r hr).1)
  have hzl := zIdx_le L m
  (refine AFnP.start Try.func35 Try.ntmps35 rfl (by kernel_rfl) fun K => ?_; simp only [Env.start, enumF, List.length_cons, List.length_nil, Nat.reduceAdd, Nat.reduceSub, List.cons_append, List.nil_append])
  cases hf : zFd L m (zIdx L m) with
  | true =>
    rw [hf] at hb
    have hc := of_decide_eq_true hf
    have hrow := hZ.row _ (at_mem hc.1)
    have hput : putZ L m e = L.set (zIdx L m) ((L.getD (zIdx L m) []).set 1 (geti (L.getD (zIdx L m) []) 1 + e)) := by
      unfold putZ
      exact if_pos hc
    obtain ⟨z1, z2, z3⟩ := hrow
    have z0 := hc.1
    generalize zIdx L m = k at *
    have z1' : (L.getD (k : Int).toNat []).length = 2 := z1
    have z3' : -(1 + 1000 * (j : Int)) ≤ geti (L.getD (k : Int).toNat []) ((Int.toNat 1 : Nat) : Int) ∧ geti (L.getD (k : Int).toNat []) ((Int.toNat 1 : Nat) : Int) ≤ 1 + 1000 * (j : Int) := z3
    repeat' (first
  | (apply AOps.nil; try simp only [List.nil_append, List.cons_append, List.set_cons_zero, List.set_cons_succ, List.length_cons, List.length_nil, Nat.reduceAdd, AV.sh, AV.sh1, AV.sh0, AO.sh, List.map_cons, List.map_nil, Nat.zero_add, Nat.add_zero, setAll])
  | ((apply AOps.splitP; exact rfl; exact rfl) <;> intro h)
  | ((apply AOps.splitN; exact rfl; exact rfl) <;> intro h)
  | (apply w_move; exact rfl; exact rfl)
  | (apply w_assign; exact rfl; exact rfl)
  | apply AWp.seq
  | apply AWp.region
  | ((apply AWp.condP; exact rfl) <;> intro h)
  | ((apply AWp.condN; exact rfl) <;> intro h)
  | (apply AWp.condT; exact rfl)
  | (apply AWp.condF; exact rfl)
  | ((apply AWp.condB; exact rfl) <;> intro h)
  | apply AWp.block
  | apply AWp.ret
  | apply AWp.exit
  | apply AWp.skip
  | (apply if_pos'; exact rfl)
  | (apply if_neg'; decide)
  | (apply w_skip; exact rfl)
  | (apply w_pickT; exact rfl; exact rfl; exact rfl)
  | (apply w_pickF; exact rfl; exact rfl; exact rfl)
  | (apply w_len; exact rfl; exact rfl; first | exact .ints _ | exact .intss _ | exact .sli rfl | exact .sls rfl | exact .slr rfl | exact .orow rfl | exact .nil)
  | ((first | apply w_slshi | apply w_slslo | apply w_bs3 | apply w_sllh | apply w_stbi); iterate 4 exact rfl)
  | (apply w_storp; exact rfl; exact rfl; rotate_left 2; exact rfl; rotate_left 2)
  | ((first | apply w_nilck | apply w_convu | apply w_convi | apply w_not | apply w_neg | apply w_conv | apply w_build0 | apply w_bs1 | apply w_boxa); iterate 2 exact rfl)
  | ((first | apply w_shr1 | apply w_lss | apply w_leq | apply w_gtr | apply w_geq | apply w_eql | apply w_neq | apply w_add | apply w_sub | apply w_mul | apply w_idx | apply w_ld | apply w_fld | apply w_fa | apply w_extv | apply w_min | apply w_max | apply w_slhi | apply w_sllo | apply w_bs2); iterate 3 exact rfl)
  | (apply w_call (hb); exact rfl; exact rfl; focus ((repeat (first | exact im_nil | refine im_cons rfl (.val _) ?_ | refine im_cons rfl (.ints _) ?_ | refine im_cons rfl (.intss _) ?_ | refine im_cons rfl (.sli rfl) ?_ | refine im_cons rfl (.sls rfl) ?_ | refine im_cons rfl (.orow rfl) ?_ | refine im_cons rfl (.osub rfl (by simp; omega)) ?_ | refine im_cons rfl (.nil) ?_ | refine im_cons rfl (.nils) ?_ | refine im_cons rfl (im_agg2 (.val _) (.ints _)) ?_ | refine im_cons rfl (im_agg2 (.val _) (.sli rfl)) ?_ | refine im_cons rfl (im_agg2 (.val _) (.nil)) ?_ | refine im_cons rfl (im_agg2 (.ints _) (.intss _)) ?_ | refine im_cons rfl (im_agg2 (.ints _) (.sls rfl)) ?_ | refine im_cons rfl (im_agg2 (.sli rfl) (.intss _)) ?_ | refine im_cons rfl (im_agg2 (.sli rfl) (.sls rfl)) ?_ | refine im_cons rfl (im_agg1 (.ints _)) ?_ | refine im_cons rfl (im_agg1 (.sli rfl)) ?_ | refine im_cons rfl (im_agg1 (.intss _)) ?_ | refine im_cons rfl (im_agg1 (.sls rfl)) ?_ | refine im_cons rfl (im_agg1 (.nil)) ?_ | refine im_cons rfl (im_agg1 (.nils)) ?_)); done))
  | omega
  | ((first | apply w_eqlb | apply w_neqb | apply w_idxs | apply w_lds | apply w_ext); iterate 3 exact rfl)
  | (apply w_rem; exact rfl; exact rfl; exact rfl; (focus (omega; done)); (focus (omega; done)))
  | (apply w_quo; exact rfl; exact rfl; exact rfl; (focus (omega; done)); (focus (omega; done)))
  | (apply w_remT; exact rfl; exact rfl; exact rfl)
  | (apply w_quoT; exact rfl; exact rfl; exact rfl)
  | (apply w_idxo; exact rfl; exact rfl; (first | exact .sli rfl | exact .sls rfl | exact .slr rfl); exact rfl)
  | ((first | apply w_idxr | apply w_ldr); iterate 4 exact rfl)
  | (apply w_ldo; iterate 4 exact rfl)
  | (apply w_ldls; iterate 4 exact rfl)
  | (apply w_ldrp; iterate 4 exact rfl)
  | (apply w_ldb; iterate 5 exact rfl)
  | (apply w_ldst; iterate 5 exact rfl)
  | ((first | apply w_oslo | apply w_oshi | apply w_stbii); iterate 4 exact rfl)
  | (apply w_build1; exact rfl; exact rfl; (first | exact one_val rfl rfl | exact one_ints | exact one_intss | exact one_own rfl True.intro))
  | (apply w_build2; exact rfl; exact rfl; exact rfl; (first | exact one_val rfl rfl | exact one_ints | exact one_intss | exact one_own rfl True.intro); (first | exact one_val rfl rfl | exact one_ints | exact one_intss | exact one_own rfl True.intro))
  | (apply w_bs0; iterate 1 exact rfl)
  | (apply w_appn; exact rfl; exact rfl; (first | exact .ints _ | exact .sli rfl | exact .orow rfl | exact .nil | exact .osub rfl (by simp; omega)); exact rfl)
  | (apply w_app; exact rfl; exact rfl; exact rfl; exact rfl; (first | exact .ints _ | exact .sli rfl | exact .orow rfl | exact .nil | exact .osub rfl (by simp; omega)); rotate_left 1; simp only [Env.mp, List.map_cons, List.map_nil, List.set_cons_zero, List.set_cons_succ, AV.kill, AV.kill1, AO.kill, AV.noRow, AV.noRow1, AO.via, reduceIte, Nat.reduceEqDiff, Nat.reduceLT, Env.up, Nat.zero_ne_one, Nat.one_ne_zero, Nat.reduceAdd, List.cons_append, List.nil_append]; rotate_left 1)
  | (apply w_alst; iterate 2 exact rfl)
  | (apply w_alone; iterate 3 exact rfl)
  | (apply w_sti; exact rfl; exact rfl; rotate_left 1; exact rfl; rotate_left 2)
  | (apply w_stst; iterate 5 exact rfl)
  | (apply w_stbv; iterate 6 exact rfl)
  | (apply w_stbo; exact rfl; exact rfl; exact rfl; exact rfl; exact rfl; exact True.intro)
  | ((apply AOps.splitB; exact rfl; exact rfl) <;> intro h)
  | apply AllOf.nil
  | (apply AllOf.cons; exact rfl)
  | (apply AAny.take; exact rfl; exact rfl; kernel_rfl; kernel_rfl)
  | (apply AAny.all; exact rfl)
  | (apply AAny.done; exact rfl)
  | (apply inI_of <;> omega)
  | omega
  | (simp <;> omega))
    exact ⟨2, .unit Try.results35, rfl, by rw [hput]; rfl, rfl, rfl⟩
  | false =>
    rw [hf] at hb
    have hnc : ¬ (zIdx L m < L.length ∧ geti (L.getD (zIdx L m) []) 0 = m) := of_decide_eq_false hf
    have hput : putZ L m e = L.take (zIdx L m) ++ [m, e] :: L.drop (zIdx L m) := by
      unfold putZ
      exact if_neg hnc
    generalize zIdx L m = k at *
    have hkl : (L.take k).length = k := by simp; omega
    have w0 : (L.take k ++ [m, 0] :: L.drop k).length = L.length + 1 := by simp; omega
    have wg : (L.take k ++ [m, 0] :: L.drop k).getD (k : Int).toNat [] = [m, 0] := by
      rw [ins_getD L [m, 0] [] hzl, Int.toNat_natCast, if_neg (by omega), if_pos rfl]
    have w1 : ((L.take k ++ [m, 0] :: L.drop k).getD (k : Int).toNat []).length = 2 := by rw [wg]; rfl
    have w2 : geti ((L.take k ++ [m, 0] :: L.drop k).getD (k : Int).toNat []) ((Int.toNat 1 : Nat) : Int) = 0 := by rw [wg]; rfl
    have wset : (L.take k ++ [m, 0] :: L.drop k).set (k : Int).toNat (((L.take k ++ [m, 0] :: L.drop k).getD (k : Int).toNat []).set (Int.toNat 1) (geti ((L.take k ++ [m, 0] :: L.drop k).getD (k : Int).toNat []) ((Int.toNat 1 : Nat) : Int) + e)) = L.take k ++ [m, e] :: L.drop k := by
      rw [w2, wg, Int.toNat_natCast, List.set_append_right _ _ (by omega), hkl, Nat.sub_self, Int.zero_add]
      rfl
    repeat' (first
  | (apply AOps.nil; try simp only [List.nil_append, List.cons_append, List.set_cons_zero, List.set_cons_succ, List.length_cons, List.length_nil, Nat.reduceAdd, AV.sh, AV.sh1, AV.sh0, AO.sh, List.map_cons, List.map_nil, Nat.zero_add, Nat.add_zero, setAll])
  | ((apply AOps.splitP; exact rfl; exact rfl) <;> intro h)
  | ((apply AOps.splitN; exact rfl; exact rfl) <;> intro h)
  | (apply w_move; exact rfl; exact rfl)
  | (apply w_assign; exact rfl; exact rfl)
  | apply AWp.seq
  | apply AWp.region
  | ((apply AWp.condP; exact rfl) <;> intro h)
  | ((apply AWp.condN; exact rfl) <;> intro h)
  | (apply AWp.condT; exact rfl)
  | (apply AWp.condF; exact rfl)
  | ((apply AWp.condB; exact rfl) <;> intro h)
  | apply AWp.block
  | apply AWp.ret
  | apply AWp.exit
  | apply AWp.skip
  | (apply if_pos'; exact rfl)
  | (apply if_neg'; decide)
  | (apply w_skip; exact rfl)
  | (apply w_pickT; exact rfl; exact rfl; exact rfl)
  | (apply w_pickF; exact rfl; exact rfl; exact rfl)
  | (apply w_len; exact rfl; exact rfl; first | exact .ints _ | exact .intss _ | exact .sli rfl | exact .sls rfl | exact .slr rfl | exact .orow rfl | exact .nil)
  | (apply w_bsr1s; exact rfl; exact rfl; exact rfl; exact rfl; simp only [Env.mp, List.map_cons, List.map_nil, List.set_cons_zero, List.set_cons_succ, AV.kill, AV.kill1, AO.kill, AV.rin, AV.rin1, AV.noRow, AV.noRow1, AO.via, reduceIte, Nat.reduceEqDiff, Nat.reduceLT, Env.up, Nat.zero_ne_one, Nat.one_ne_zero, Nat.reduceAdd, List.cons_append, List.nil_append])
  | ((first | apply w_slshi | apply w_slslo | apply w_bs3 | apply w_sllh | apply w_stbi); iterate 4 exact rfl)
  | (apply w_storp; exact rfl; exact rfl; rotate_left 2; exact rfl; rotate_left 2)
  | ((first | apply w_nilck | apply w_convu | apply w_convi | apply w_not | apply w_neg | apply w_conv | apply w_build0 | apply w_bs1 | apply w_boxa); iterate 2 exact rfl)
  | ((first | apply w_shr1 | apply w_lss | apply w_leq | apply w_gtr | apply w_geq | apply w_eql | apply w_neq | apply w_add | apply w_sub | apply w_mul | apply w_idx | apply w_ld | apply w_fld | apply w_fa | apply w_extv | apply w_min | apply w_max | apply w_slhi | apply w_sllo | apply w_bs2); iterate 3 exact rfl)
  | (apply w_insrow; exact rfl; exact rfl; exact rfl; exact rfl; exact rfl; exact rfl; rotate_left 2; simp only [Env.mp, List.map_cons, List.map_nil, List.set_cons_zero, List.set_cons_succ, AV.kill, AV.kill1, AO.kill, AV.lose, AV.lose1, List.map_append, map_orow_kill, AV.noRow, AV.noRow1, AO.via, reduceIte, Nat.reduceEqDiff, Nat.reduceLT, Env.up, Nat.zero_ne_one, Nat.one_ne_zero, Nat.reduceAdd, List.cons_append, List.nil_append]; rotate_left 1)
  | (apply w_call (hb); exact rfl; exact rfl; focus ((repeat (first | exact im_nil | refine im_cons rfl (.val _) ?_ | refine im_cons rfl (.ints _) ?_ | refine im_cons rfl (.intss _) ?_ | refine im_cons rfl (.sli rfl) ?_ | refine im_cons rfl (.sls rfl) ?_ | refine im_cons rfl (.orow rfl) ?_ | refine im_cons rfl (.osub rfl (by simp; omega)) ?_ | refine im_cons rfl (.nil) ?_ | refine im_cons rfl (.nils) ?_ | refine im_cons rfl (im_agg2 (.val _) (.ints _)) ?_ | refine im_cons rfl (im_agg2 (.val _) (.sli rfl)) ?_ | refine im_cons rfl (im_agg2 (.val _) (.nil)) ?_ | refine im_cons rfl (im_agg2 (.ints _) (.intss _)) ?_ | refine im_cons rfl (im_agg2 (.ints _) (.sls rfl)) ?_ | refine im_cons rfl (im_agg2 (.sli rfl) (.intss _)) ?_ | refine im_cons rfl (im_agg2 (.sli rfl) (.sls rfl)) ?_ | refine im_cons rfl (im_agg1 (.ints _)) ?_ | refine im_cons rfl (im_agg1 (.sli rfl)) ?_ | refine im_cons rfl (im_agg1 (.intss _)) ?_ | refine im_cons rfl (im_agg1 (.sls rfl)) ?_ | refine im_cons rfl (im_agg1 (.nil)) ?_ | refine im_cons rfl (im_agg1 (.nils)) ?_)); done))
  | omega
  | ((first | apply w_eqlb | apply w_neqb | apply w_idxs | apply w_lds | apply w_ext); iterate 3 exact rfl)
  | (apply w_rem; exact rfl; exact rfl; exact rfl; (focus (omega; done)); (focus (omega; done)))
  | (apply w_quo; exact rfl; exact rfl; exact rfl; (focus (omega; done)); (focus (omega; done)))
  | (apply w_remT; exact rfl; exact rfl; exact rfl)
  | (apply w_quoT; exact rfl; exact rfl; exact rfl)
  | (apply w_idxo; exact rfl; exact rfl; (first | exact .sli rfl | exact .sls rfl | exact .slr rfl); exact rfl)
  | ((first | apply w_idxr | apply w_ldr); iterate 4 exact rfl)
  | (apply w_ldo; iterate 4 exact rfl)
  | (apply w_ldls; iterate 4 exact rfl)
  | (apply w_ldrp; iterate 4 exact rfl)
  | (apply w_ldb; iterate 5 exact rfl)
  | (apply w_ldst; iterate 5 exact rfl)
  | ((first | apply w_oslo | apply w_oshi | apply w_stbii); iterate 4 exact rfl)
  | (apply w_build1; exact rfl; exact rfl; (first | exact one_val rfl rfl | exact one_ints | exact one_intss | exact one_own rfl True.intro))
  | (apply w_build2; exact rfl; exact rfl; exact rfl; (first | exact one_val rfl rfl | exact one_ints | exact one_intss | exact one_own rfl True.intro); (first | exact one_val rfl rfl | exact one_ints | exact one_intss | exact one_own rfl True.intro))
  | (apply w_bs0; iterate 1 exact rfl)
  | (apply w_appn; exact rfl; exact rfl; (first | exact .ints _ | exact .sli rfl | exact .orow rfl | exact .nil | exact .osub rfl (by simp; omega)); exact rfl)
  | (apply w_app; exact rfl; exact rfl; exact rfl; exact rfl; (first | exact .ints _ | exact .sli rfl | exact .orow rfl | exact .nil | exact .osub rfl (by simp; omega)); rotate_left 1; simp only [Env.mp, List.map_cons, List.map_nil, List.set_cons_zero, List.set_cons_succ, AV.kill, AV.kill1, AO.kill, AV.noRow, AV.noRow1, AO.via, reduceIte, Nat.reduceEqDiff, Nat.reduceLT, Env.up, Nat.zero_ne_one, Nat.one_ne_zero, Nat.reduceAdd, List.cons_append, List.nil_append]; rotate_left 1)
  | (apply w_alst; iterate 2 exact rfl)
  | (apply w_alone; iterate 3 exact rfl)
  | (apply w_sti; exact rfl; exact rfl; rotate_left 1; exact rfl; rotate_left 2)
  | (apply w_stst; iterate 5 exact rfl)
  | (apply w_stbv; iterate 6 exact rfl)
  | (apply w_stbo; exact rfl; exact rfl; exact rfl; exact rfl; exact rfl; exact True.intro)
  | ((apply AOps.splitB; exact rfl; exact rfl) <;> intro h)
  | apply AllOf.nil
  | (apply AllOf.cons; exact rfl)
  | (apply AAny.take; exact rfl; exact rfl; kernel_rfl; kernel_rfl)
  | (apply AAny.all; exact rfl)
  | (apply AAny.done; exact rfl)
  | (apply inI_of <;> omega)
  | omega
  | (simp <;> omega))
    exact ⟨2, .unit Try.results35, rfl, by rw [hput, ← wset]; rfl, rfl, rfl⟩
end Go.Proofs.Ytkcbihmpjkkccaa
/-
  Counters in the reference: what is not 0. No condition but bounds.
-/
namespace Go.Proofs.Ytkcbihmpjkkccaa
open Go Go.RowKit
attribute [local irreducible] AWp AOps ResIs Ret1 QOp LOp COp AFnV AFn Imms LeE LeO
set_option maxHeartbeats 1000000
set_option linter.unusedSimpArgs false
set_option linter.unusedVariables false

/-- The rows among the first n whose count is not 0. -/
def nzL (L : List (List Int)) (n : Nat) : List (List Int) := (L.take n).filter fun r => decide (geti r 1 ≠ 0)
theorem nzL_succ {L : List (List Int)} {n : Nat} (h : n < L.length) : nzL L (n + 1) = if geti (gets L (n : Nat)) 1 ≠ 0 then nzL L n ++ [gets L (n : Nat)] else nzL L n := by
  have e : gets L (n : Nat) = L[n] := by simp [gets, h]
  unfold nzL
  rw [List.take_succ_eq_append_getElem h, List.filter_append, e]
  split
  · rename_i h1; simp [h1]
  · rename_i h1; simp at h1; simp [h1]
theorem nzL_len (L : List (List Int)) (n : Nat) : (nzL L n).length ≤ L.length := by
  unfold nzL
  have h1 := List.length_filter_le (fun r => decide (geti r 1 ≠ 0)) (L.take n)
  have h2 : (L.take n).length ≤ L.length := by rw [List.length_take]; omega
  omega
end Go.Proofs.Ytkcbihmpjkkccaa
/-
  Eigenvalue numbers: what both sides compute; the reference. No condition but bounds.
-/
namespace Go.Proofs.Ytkcbihmpjkkccaa
open Go Go.RowKit
attribute [local irreducible] AWp AOps ResIs Ret1 QOp LOp COp AFnV AFn Imms LeE LeO
set_option maxHeartbeats 1000000
set_option linter.unusedSimpArgs false
set_option linter.unusedVariables false

/-- What one number d does. -/
def stZ (L : List (List Int)) (m c : Int) (d : Nat) : List (List Int) :=
  if m % (d : Int) = 0 then (if (d : Int) * d = m then putZ L d (-c) else putZ (putZ L d (-c)) (m / (d : Int)) (-c)) else L
def rowZ (L : List (List Int)) (m c : Int) : Nat → List (List Int)
  | 0 => L
  | k + 1 => stZ (rowZ L m c k) m c (k + 1)
def isqN (m : Int) : Nat → Nat
  | 0 => 0
  | k + 1 => if ((k + 1 : Nat) : Int) * (k + 1 : Nat) ≤ m then k + 1 else isqN m k
def isq (m : Int) : Nat := isqN m 1000
theorem isqN_eq {m : Int} {k : Nat} (h1 : (k : Int) * k ≤ m) (h2 : m < ((k + 1 : Nat) : Int) * (k + 1 : Nat)) : ∀ F, k ≤ F → isqN m F = k
  | 0, h => by have : k = 0 := by omega
               subst this; rfl
  | F + 1, h => by
    rw [isqN]
    by_cases e : k = F + 1
    · subst e; rw [if_pos h1]
    · have hle : ((k + 1 : Nat) : Int) * (k + 1 : Nat) ≤ ((F + 1 : Nat) : Int) * (F + 1 : Nat) := Int.mul_le_mul (by omega) (by omega) (by omega) (by omega)
      rw [if_neg (by omega)]
      exact isqN_eq h1 h2 F (by omega)
def numZ (Z : List (List Int)) : Nat → List (List Int)
  | 0 => [[1, 1]]
  | i + 1 => rowZ (numZ Z i) (geti (gets Z (i : Nat)) 0) (geti (gets Z (i : Nat)) 1) (isq (geti (gets Z (i : Nat)) 0))
theorem zi_st {j : Nat} {L : List (List Int)} (h : ZI j L) {m c : Int} (hm : 1 ≤ m ∧ m ≤ 1000000) (hc : -1000 ≤ c ∧ c ≤ 1000) {d : Nat} (hd : 1 ≤ d ∧ d ≤ 1000) : ZI (j + 2) (stZ L m c d) := by
  have hq : 1 ≤ m / (d : Int) ∨ m / (d : Int) < 1 := by omega
  unfold stZ
  split
  · rename_i h0
    have h1 := zi_put h (m := (d : Int)) (e := -c) (by omega) (by omega)
    split
    · exact zi_mono h1 (by omega)
    · have hdm : (d : Int) * (m / (d : Int)) = m := by have := Int.mul_ediv_add_emod m (d : Int); omega
      have hq1 : 1 ≤ m / (d : Int) := by
        rcases Int.lt_or_le (m / (d : Int)) 1 with hq | hq
        · have := Int.mul_le_mul_of_nonneg_left (show m / (d : Int) ≤ 0 by omega) (show (0 : Int) ≤ (d : Int) by omega)
          omega
        · exact hq
      have hq2 : m / (d : Int) ≤ m := Int.ediv_le_self _ (by omega)
      exact zi_put h1 ⟨hq1, by omega⟩ (by omega)
  · exact zi_mono h (by omega)
theorem zi_row {j : Nat} {L : List (List Int)} (h : ZI j L) {m c : Int} (hm : 1 ≤ m ∧ m ≤ 1000000) (hc : -1000 ≤ c ∧ c ≤ 1000) : ∀ k, k ≤ 1000 → ZI (j + 2 * k) (rowZ L m c k)
  | 0, _ => h
  | k + 1, hk => by
    have := zi_st (zi_row h hm hc k (by omega)) hm hc (d := k + 1) (by omega)
    rw [rowZ]
    exact zi_mono this (by omega)
theorem isqN_le (m : Int) : ∀ F, isqN m F ≤ F
  | 0 => Nat.le_refl _
  | F + 1 => by have := isqN_le m F; rw [isqN]; split <;> omega
/-- The rows of a zeta list. -/
def ZtOk (Z : List (List Int)) : Prop := Z.length ≤ 40 ∧ ∀ i : Nat, i < Z.length → (gets Z (i : Nat)).length = 2 ∧ (1 ≤ geti (gets Z (i : Nat)) 0 ∧ geti (gets Z (i : Nat)) 0 ≤ 1000000) ∧ (-1000 ≤ geti (gets Z (i : Nat)) 1 ∧ geti (gets Z (i : Nat)) 1 ≤ 1000)
theorem zi_num {Z : List (List Int)} (hZ : ZtOk Z) : ∀ i, i ≤ Z.length → ZI (2000 * i) (numZ Z i)
  | 0, _ => zi_one
  | i + 1, hi => by
    obtain ⟨_, h2, h3⟩ := hZ.2 i (by omega)
    have hq := isqN_le (geti (gets Z (i : Nat)) 0) 1000
    have := zi_row (zi_num hZ i (by omega)) h2 h3 (isq (geti (gets Z (i : Nat)) 0)) hq
    rw [numZ]
    exact zi_mono this (by unfold isq; omega)
end Go.Proofs.Ytkcbihmpjkkccaa
/-
  Eigenvalue numbers: the closure that counts, and the walk over all divisors. No condition but bounds.
-/
namespace Go.Proofs.Ytkcbihmpjkkccaa
open Go Go.RowKit
attribute [local irreducible] AWp AOps ResIs Ret1 QOp LOp COp AFnV AFn Imms LeE LeO
set_option maxHeartbeats 1000000
set_option linter.unusedSimpArgs false
set_option linter.unusedVariables false
attribute [local irreducible] cloRo

set_option maxHeartbeats 4000000 in
theorem clo_c (j : Nat) (L : List (List Int)) (hZ : ZI j L) (hj : j ≤ 900000) (rx : List Int) (hl : (gets [rx] 0).length = 2) (d : Int) (hd : 1 ≤ d ∧ d ≤ 1000000) (hc : -1000 ≤ geti (gets [rx] 0) 1 ∧ geti (gets [rx] 0) 1 ≤ 1000) :
    AFnO Try.prog 58 [.i d, .optr 0 0, .iiptr [rx] 0] (cntOb 60 26 2 L) (cntOb 60 26 2 (putZ L d (0 - geti (gets [rx] 0) 1))) (.tuple #[]) := by
  have ha := (AFnO.ofP (add_c j L hZ hj d (0 - geti (gets [rx] 0) 1) hd (by omega)))
  (refine AFnO.start Try.func58 Try.ntmps58 rfl (by kernel_rfl) fun K B V => ?_; simp only [Env.start, enumF, List.map_cons, List.map_nil, AV.sh, AV.sh0, List.length_cons, List.length_nil, Nat.reduceAdd, Nat.zero_add, Nat.reduceSub, List.cons_append, List.nil_append])
  have ha := ha.pin B V
  simp only [List.map_cons, List.map_nil] at ha
  repeat' (first | (apply AOps.nil; try simp only [List.nil_append, List.cons_append, List.set_cons_zero, List.set_cons_succ, List.length_cons, List.length_nil, Nat.reduceAdd, AV.sh, AV.sh1, AV.sh0, AO.sh, List.map_cons, List.map_nil, Nat.zero_add, Nat.add_zero, setAll]) | (apply w_move; exact rfl; exact rfl) | apply AWp.region | (apply w_callo 1 2 (ha); exact rfl; exact rfl; (focus ((repeat (first | exact imo_nil | refine imo_ptr rfl ?_ | refine imo_cons rfl (.val _) ?_)); done)); simp only [Env.mp, List.map_cons, List.map_nil, List.set_cons_zero, List.set_cons_succ, AV.kill, AV.kill1, AO.kill, AV.noRow, AV.noRow1, AO.via, reduceIte, Nat.reduceEqDiff, Nat.reduceLT, Env.up, Nat.zero_ne_one, Nat.one_ne_zero, Nat.reduceAdd, List.cons_append, List.nil_append]) | omega | ((first | apply w_idx | apply w_ld); iterate 3 exact rfl) | ((apply w_lds); iterate 3 exact rfl) | ((apply w_neg); iterate 2 exact rfl) | (apply inI_of <;> omega))
  exact ⟨1, .unit Try.results58, rfl, rfl⟩
abbrev cloF : FuncId := 58
/-- The closure's contract with its pinned object. -/
theorem clo_k (j : Nat) (L : List (List Int)) (hZ : ZI j L) (hj : j ≤ 900000) (rx : List Int) (hl : (gets [rx] 0).length = 2) (d : Int) (hd : 1 ≤ d ∧ d ≤ 1000000) (hc : -1000 ≤ geti (gets [rx] 0) 1 ∧ geti (gets [rx] 0) 1 ≤ 1000) (B B2 : Nat) (V V2 : Value) :
    AFnO Try.prog 58 ([.i d] ++ [.optr 0 0, .iiptr [rx] 0]) (pinOb (pinOb (cntOb 60 26 2 L) B V) B2 V2) (pinOb (pinOb (cntOb 60 26 2 (putZ L d (-geti (gets [rx] 0) 1))) B V) B2 V2) (.tuple #[]) := by
  have := ((clo_c j L hZ hj rx hl d hd hc).pin B V).pin B2 V2
  rw [Int.zero_sub] at this
  exact this
set_option maxHeartbeats 8000000 in
theorem allDiv_c (j : Nat) (L : List (List Int)) (hZ : ZI j L) (hj : j ≤ 800000) (rx : List Int) (hl : (gets [rx] 0).length = 2) (m : Int) (hm : 1 ≤ m ∧ m ≤ 1000000) (hc : -1000 ≤ geti (gets [rx] 0) 1 ∧ geti (gets [rx] 0) 1 ≤ 1000) (B : Nat) (V : Value) (hV : V = .pointer (some ⟨B, 0, none⟩)) :
    AFnO Try.prog 57 [.i m, .ro (cloRo cloF V rx)] (pinOb (cntOb 60 26 2 L) B V) (pinOb (cntOb 60 26 2 (rowZ L m (geti (gets [rx] 0) 1) (isq m))) B V) (.tuple #[]) := by
  (refine AFnO.start Try.func57 Try.ntmps57 rfl (by kernel_rfl) fun K B2 V2 => ?_; simp only [Env.start, enumF, List.map_cons, List.map_nil, AV.sh, AV.sh0, List.length_cons, List.length_nil, Nat.reduceAdd, Nat.zero_add, Nat.reduceSub, List.cons_append, List.nil_append])
  repeat' (first | (apply AOps.nil; try simp only [List.nil_append, List.cons_append, List.set_cons_zero, List.set_cons_succ, List.length_cons, List.length_nil, Nat.reduceAdd, AV.sh, AV.sh1, AV.sh0, AO.sh, List.map_cons, List.map_nil, Nat.zero_add, Nat.add_zero, setAll]) | (apply w_assign; exact rfl; exact rfl) | apply AWp.seq | apply AWp.region | apply AWp.block)
  refine AWp.loop (ι := Nat) (fun k => ⟨29, [(0, .i m), (1, .ro (cloRo cloF V rx)), (4, .i ((k : Int) + 1))]⟩) (fun k => [.keep 1 K, .ob (pinOb (pinOb (cntOb 60 26 2 (rowZ L m (geti (gets [rx] 0) 1) k)) B V) B2 V2)]) (fun k => k ≤ 1000 ∧ (k : Int) * k ≤ m) (fun k => 1000 - k) 0 ⟨by omega, by simp; omega⟩ ⟨lee rfl (by (repeat (first | exact le_nil | refine le_eq rfl rfl ?_))), by (repeat (first | exact lo_nil | refine lo_eq rfl ?_)), rfl, rfl⟩ ?_
  rintro k ⟨k0, k1⟩
  have hp : Pinned (pinOb (pinOb (cntOb 60 26 2 (rowZ L m (geti (gets [rx] 0) 1) k)) B V) B2 V2) B V := pinned2 pinned1
  have hzk := zi_row hZ hm hc k k0
  have ek : (((k + 1 : Nat) : Nat) : Int) = (k : Int) + 1 := by omega
  have hstep : rowZ L m (geti (gets [rx] 0) 1) (k + 1) = stZ (rowZ L m (geti (gets [rx] 0) 1) k) m (geti (gets [rx] 0) 1) (k + 1) := rfl
  unfold stZ at hstep
  rw [ek] at hstep
  have hsq0 : 0 ≤ ((k : Int) + 1) * ((k : Int) + 1) ∧ ((k : Int) + 1) * ((k : Int) + 1) ≤ 1001 * 1001 := ⟨Int.mul_nonneg (by omega) (by omega), Int.mul_le_mul (by omega) (by omega) (by omega) (by omega)⟩
  by_cases hd : ((k : Int) + 1) * ((k : Int) + 1) ≤ m
  · have hk1 : k + 1 ≤ 1000 := by
      apply Classical.byContradiction
      intro hn
      have := Int.mul_le_mul (show (1001 : Int) ≤ (k : Int) + 1 by omega) (show (1001 : Int) ≤ (k : Int) + 1 by omega) (by omega) (by omega)
      omega
    have hinv : (((k + 1 : Nat) : Nat) : Int) * ((k + 1 : Nat) : Int) ≤ m := by rw [ek]; exact hd
    by_cases hmd : m % ((k : Int) + 1) = 0
    · rw [if_pos hmd] at hstep
      have hz1 := zi_put hzk (m := (k : Int) + 1) (e := -geti (gets [rx] 0) 1) (by omega) (by omega)
      have hk1c := clo_k _ _ hzk (by omega) rx hl ((k : Int) + 1) (by omega) hc B B2 V V2
      by_cases he : ((k : Int) + 1) * ((k : Int) + 1) = m
      · rw [if_pos he] at hstep
        repeat' (first | (apply AOps.nil; try simp only [List.nil_append, List.cons_append, List.set_cons_zero, List.set_cons_succ, List.length_cons, List.length_nil, Nat.reduceAdd, AV.sh, AV.sh1, AV.sh0, AO.sh, List.map_cons, List.map_nil, Nat.zero_add, Nat.add_zero, setAll]) | (apply w_move; exact rfl; exact rfl) | (apply w_assign; exact rfl; exact rfl) | apply AWp.seq | apply AWp.region | ((apply AWp.condP; exact rfl) <;> intro h) | apply AWp.block | apply AWp.exit | apply AWp.skip | (apply if_pos'; exact rfl) | (apply w_callk 1 2 hV hp hk1c; exact rfl; exact rfl; exact rfl; (focus ((repeat (first | exact imo_nil | refine imo_cons rfl (.val _) ?_)); done)); simp only [Env.mp, List.map_cons, List.map_nil, List.set_cons_zero, List.set_cons_succ, AV.kill, AV.kill1, AO.kill, AV.noRow, AV.noRow1, AO.via, reduceIte, Nat.reduceEqDiff, Nat.reduceLT, Env.up, Nat.zero_ne_one, Nat.one_ne_zero, Nat.reduceAdd, List.cons_append, List.nil_append]) | omega | ((first | apply w_lss | apply w_leq | apply w_eql | apply w_add | apply w_mul); iterate 3 exact rfl) | (apply w_rem; exact rfl; exact rfl; exact rfl; (focus (omega; done)); (focus (omega; done))) | (apply inI_of <;> omega))
        exact ⟨k + 1, ⟨hk1, hinv⟩, by omega, ⟨lee rfl (by (repeat (first | exact le_nil | refine le_eq rfl rfl ?_))), by (repeat (first | exact lo_nil | refine lo_eq rfl ?_ | refine lo_eq (congrArg (fun z => AO.ob (pinOb (pinOb (cntOb 60 26 2 z) B V) B2 V2)) hstep.symm) ?_)), rfl, rfl⟩⟩
      · rw [if_neg he] at hstep
        have hdm : ((k : Int) + 1) * (m / ((k : Int) + 1)) = m := by have := Int.mul_ediv_add_emod m ((k : Int) + 1); omega
        have hq1 : 1 ≤ m / ((k : Int) + 1) := by
          rcases Int.lt_or_le (m / ((k : Int) + 1)) 1 with hq | hq
          · have := Int.mul_le_mul_of_nonneg_left (show m / ((k : Int) + 1) ≤ 0 by omega) (show (0 : Int) ≤ (k : Int) + 1 by omega)
            omega
          · exact hq
        have hq2 : m / ((k : Int) + 1) ≤ m := Int.ediv_le_self _ (by omega)
        have hk2c := clo_k _ _ hz1 (by omega) rx hl (m / ((k : Int) + 1)) (by omega) hc B B2 V V2
        have hp2 : Pinned (pinOb (pinOb (cntOb 60 26 2 (putZ (rowZ L m (geti (gets [rx] 0) 1) k) ((k : Int) + 1) (-geti (gets [rx] 0) 1))) B V) B2 V2) B V := pinned2 pinned1
        repeat' (first | (apply AOps.nil; try simp only [List.nil_append, List.cons_append, List.set_cons_zero, List.set_cons_succ, List.length_cons, List.length_nil, Nat.reduceAdd, AV.sh, AV.sh1, AV.sh0, AO.sh, List.map_cons, List.map_nil, Nat.zero_add, Nat.add_zero, setAll]) | (apply w_move; exact rfl; exact rfl) | (apply w_assign; exact rfl; exact rfl) | apply AWp.seq | apply AWp.region | ((apply AWp.condP; exact rfl) <;> intro h) | apply AWp.block | apply AWp.exit | apply AWp.skip | (apply if_pos'; exact rfl) | (apply w_callk 1 2 hV hp hk1c; exact rfl; exact rfl; exact rfl; (focus ((repeat (first | exact imo_nil | refine imo_cons rfl (.val _) ?_)); done)); simp only [Env.mp, List.map_cons, List.map_nil, List.set_cons_zero, List.set_cons_succ, AV.kill, AV.kill1, AO.kill, AV.noRow, AV.noRow1, AO.via, reduceIte, Nat.reduceEqDiff, Nat.reduceLT, Env.up, Nat.zero_ne_one, Nat.one_ne_zero, Nat.reduceAdd, List.cons_append, List.nil_append]) | (apply w_callk 1 2 hV hp2 hk2c; exact rfl; exact rfl; exact rfl; (focus ((repeat (first | exact imo_nil | refine imo_cons rfl (.val _) ?_)); done)); simp only [Env.mp, List.map_cons, List.map_nil, List.set_cons_zero, List.set_cons_succ, AV.kill, AV.kill1, AO.kill, AV.noRow, AV.noRow1, AO.via, reduceIte, Nat.reduceEqDiff, Nat.reduceLT, Env.up, Nat.zero_ne_one, Nat.one_ne_zero, Nat.reduceAdd, List.cons_append, List.nil_append]) | omega | ((first | apply w_lss | apply w_leq | apply w_eql | apply w_add | apply w_mul); iterate 3 exact rfl) | (apply w_rem; exact rfl; exact rfl; exact rfl; (focus (omega; done)); (focus (omega; done))) | (apply w_quo; exact rfl; exact rfl; exact rfl; (focus (omega; done)); (focus (omega; done))) | (apply inI_of <;> omega))
        exact ⟨k + 1, ⟨hk1, hinv⟩, by omega, ⟨lee rfl (by (repeat (first | exact le_nil | refine le_eq rfl rfl ?_))), by (repeat (first | exact lo_nil | refine lo_eq rfl ?_ | refine lo_eq (congrArg (fun z => AO.ob (pinOb (pinOb (cntOb 60 26 2 z) B V) B2 V2)) hstep.symm) ?_)), rfl, rfl⟩⟩
    · rw [if_neg hmd] at hstep
      repeat' (first | (apply AOps.nil; try simp only [List.nil_append, List.cons_append, List.set_cons_zero, List.set_cons_succ, List.length_cons, List.length_nil, Nat.reduceAdd, AV.sh, AV.sh1, AV.sh0, AO.sh, List.map_cons, List.map_nil, Nat.zero_add, Nat.add_zero, setAll]) | (apply w_move; exact rfl; exact rfl) | (apply w_assign; exact rfl; exact rfl) | apply AWp.seq | apply AWp.region | ((apply AWp.condP; exact rfl) <;> intro h) | apply AWp.block | apply AWp.exit | apply AWp.skip | (apply if_pos'; exact rfl) | omega | ((first | apply w_leq | apply w_eql | apply w_add | apply w_mul); iterate 3 exact rfl) | (apply w_rem; exact rfl; exact rfl; exact rfl; (focus (omega; done)); (focus (omega; done))) | (apply inI_of <;> omega))
      exact ⟨k + 1, ⟨hk1, hinv⟩, by omega, ⟨lee rfl (by (repeat (first | exact le_nil | refine le_eq rfl rfl ?_))), by (repeat (first | exact lo_nil | refine lo_eq rfl ?_ | refine lo_eq (congrArg (fun z => AO.ob (pinOb (pinOb (cntOb 60 26 2 z) B V) B2 V2)) hstep.symm) ?_)), rfl, rfl⟩⟩
  · have hi2 : isq m = k := isqN_eq k1 (by rw [ek]; omega) 1000 k0
    rw [hi2]
    repeat' (first | (apply AOps.nil; try simp only [List.nil_append, List.cons_append, List.set_cons_zero, List.set_cons_succ, List.length_cons, List.length_nil, Nat.reduceAdd, AV.sh, AV.sh1, AV.sh0, AO.sh, List.map_cons, List.map_nil, Nat.zero_add, Nat.add_zero, setAll]) | (apply w_move; exact rfl; exact rfl) | apply AWp.seq | apply AWp.region | ((apply AWp.condP; exact rfl) <;> intro h) | apply AWp.block | apply AWp.exit | apply AWp.skip | (apply if_pos'; exact rfl) | omega | ((first | apply w_leq | apply w_mul); iterate 3 exact rfl) | (apply inI_of <;> omega))
    exact ⟨1, .unit Try.results57, rfl, rfl⟩
end Go.Proofs.Ytkcbihmpjkkccaa
/-
  Eigenvalue numbers: the reference. No condition but bounds.
-/
namespace Go.Proofs.Ytkcbihmpjkkccaa
open Go Go.RowKit
attribute [local irreducible] AWp AOps ResIs Ret1 QOp LOp COp AFnV AFn Imms LeE LeO
set_option maxHeartbeats 1000000
set_option linter.unusedSimpArgs false
set_option linter.unusedVariables false

theorem zok_of {j : Nat} {L : List (List Int)} (h : ZI j L) (hj : j ≤ 900000) : (∀ r ∈ L, ZOk 1000000000000 r) ∧ L.length ≤ 1000000 :=
  ⟨fun r hr => by have := h.row r hr; unfold ZOk at *; omega, by have := h.len; omega⟩
end Go.Proofs.Ytkcbihmpjkkccaa
/-
  Eigenvalue numbers: the program's. No condition but bounds.
-/
namespace Go.Proofs.Ytkcbihmpjkkccaa
open Go Go.RowKit
attribute [local irreducible] AWp AOps ResIs Ret1 QOp LOp COp AFnV AFn Imms LeE LeO
set_option maxHeartbeats 1000000
set_option linter.unusedSimpArgs false
set_option linter.unusedVariables false
attribute [local irreducible] cloRo

/-- The places of the rows among the first n whose count is not 0. -/
def nzI (L : List (List Int)) : Nat → List Nat
  | 0 => []
  | n + 1 => if geti (gets L (n : Nat)) 1 ≠ 0 then nzI L n ++ [n] else nzI L n
theorem nzI_lt (L : List (List Int)) : ∀ (n i : Nat), i ∈ nzI L n → i < n
  | 0, i, h => by cases h
  | n + 1, i, h => by
    rw [nzI] at h
    split at h
    · rcases List.mem_append.1 h with h | h
      · have := nzI_lt L n i h; omega
      · simp at h; omega
    · have := nzI_lt L n i h; omega
theorem nzI_nodup (L : List (List Int)) : ∀ n : Nat, (nzI L n).Nodup
  | 0 => List.nodup_nil
  | n + 1 => by
    rw [nzI]
    split
    · rw [List.nodup_append]
      exact ⟨nzI_nodup L n, by simp, fun a ha b hb e => by have := nzI_lt L n a ha; simp at hb; omega⟩
    · exact nzI_nodup L n
theorem nzI_len (L : List (List Int)) : ∀ n : Nat, (nzI L n).length ≤ n
  | 0 => Nat.le_refl _
  | n + 1 => by
    have := nzI_len L n
    rw [nzI]
    split
    · simp; omega
    · omega
theorem nzI_rows (L : List (List Int)) : ∀ n : Nat, n ≤ L.length → (nzI L n).map (fun i => L.getD i []) = nzL L n
  | 0, _ => rfl
  | n + 1, h => by
    have ih := nzI_rows L n (by omega)
    rw [nzL_succ (by omega), nzI]
    split
    · rw [List.map_append, ih]
      simp [gets]
    · exact ih
theorem putZ_nil (m e : Int) : putZ [] m e = [[m, e]] := rfl

theorem lim9 {T e e2 e3 : TypeId} {ys : List (List Int)} (st : List Nat) : [AO.bx T [.own 1], AO.sls e e2 ys, .slr e3 (st.map (AV.orow 1))].map (AO.lim 3) = [AO.bx T [.own 1], AO.sls e e2 ys, .slr e3 (st.map (AV.orow 1))] := by
  have : (st.map (AV.orow 1)).map (AV.lim 3) = st.map (AV.orow 1) := by rw [List.map_map]; rfl
  simp only [List.map_cons, List.map_nil, AO.lim, this]
  rfl
set_option maxHeartbeats 8000000 in
theorem eigen_c (Z : List (List Int)) (hZ : ZtOk Z) : AFn Try.prog 52 [.intss Z] (IsIntss 26 2 (nzL (numZ Z Z.length) (numZ Z Z.length).length)) := by
  have hzl := hZ.1
  have ha0 := AFnO.ofP (add_c 0 [] zi_nil (by omega) 1 1 (by omega) (by omega))
  rw [putZ_nil] at ha0
  simp only [List.map_cons, List.map_nil] at ha0
  (refine AFn.start Try.func52 Try.ntmps52 rfl (by kernel_rfl) fun hk => ?_; simp only [Env.start, enumF, List.length_cons, List.length_nil, Nat.reduceAdd, Nat.reduceSub, List.cons_append, List.nil_append])
  repeat' (first | (apply AOps.nil; try simp only [List.nil_append, List.cons_append, List.set_cons_zero, List.set_cons_succ, List.length_cons, List.length_nil, Nat.reduceAdd, AV.sh, AV.sh1, AV.sh0, AO.sh, List.map_cons, List.map_nil, Nat.zero_add, Nat.add_zero, setAll]) | (apply w_assign; exact rfl; exact rfl) | apply AWp.seq | apply AWp.region | ((apply w_build0); iterate 2 exact rfl) | (apply w_alst; iterate 2 exact rfl) | (apply w_stst; iterate 5 exact rfl))
  refine AOps.turns (Turns.joinNil (h := 0) 26 2 rfl) ?_
  try simp only [List.nil_append, List.cons_append, List.set_cons_zero, List.set_cons_succ, List.length_cons, List.length_nil, Nat.reduceAdd, AV.sh, AV.sh1, AV.sh0, AO.sh, List.map_cons, List.map_nil, Nat.zero_add, Nat.add_zero, setAll]
  repeat' (first | (apply AOps.nil; try simp only [List.nil_append, List.cons_append, List.set_cons_zero, List.set_cons_succ, List.length_cons, List.length_nil, Nat.reduceAdd, AV.sh, AV.sh1, AV.sh0, AO.sh, List.map_cons, List.map_nil, Nat.zero_add, Nat.add_zero, setAll]) | (apply w_move; exact rfl; exact rfl) | apply AWp.seq | apply AWp.region | apply AWp.block | (apply w_len; exact rfl; exact rfl; first | exact .ints _ | exact .intss _ | exact .sli rfl | exact .sls rfl | exact .slr rfl | exact .orow rfl | exact .nil) | (apply w_callo 0 2 (ha0); exact rfl; exact rfl; (focus ((repeat (first | exact imo_nil | refine imo_ptr rfl ?_ | refine imo_cons rfl (.val _) ?_)); done)); simp only [Env.mp, List.map_cons, List.map_nil, List.set_cons_zero, List.set_cons_succ, AV.kill, AV.kill1, AO.kill, AV.noRow, AV.noRow1, AO.via, reduceIte, Nat.reduceEqDiff, Nat.reduceLT, Env.up, Nat.zero_ne_one, Nat.one_ne_zero, Nat.reduceAdd, List.cons_append, List.nil_append]))
  refine AWp.loop (ι := Nat) (fun i => ⟨41, [(0, .intss Z), (3, .optr 0 0), (11, .intss Z), (12, .i Z.length), (13, .i i)]⟩) (fun i => [.ob (cntOb 60 26 2 (numZ Z i))]) (fun i => i ≤ Z.length) (fun i => Z.length - i) 0 (by omega) ⟨lee rfl (by (repeat (first | exact le_nil | refine le_eq rfl rfl ?_))), by (repeat (first | exact lo_nil | refine lo_eq rfl ?_)), rfl, rfl⟩ ?_
  rintro i i0
  have hzi := zi_num hZ i i0
  by_cases hlt : i < Z.length
  · obtain ⟨r1, r2, r3⟩ := hZ.2 i hlt
    repeat' (first | (apply AOps.nil; try simp only [List.nil_append, List.cons_append, List.set_cons_zero, List.set_cons_succ, List.length_cons, List.length_nil, Nat.reduceAdd, AV.sh, AV.sh1, AV.sh0, AO.sh, List.map_cons, List.map_nil, Nat.zero_add, Nat.add_zero, setAll]) | apply AWp.seq | apply AWp.region | ((apply AWp.condP; exact rfl) <;> intro h) | apply AWp.block | apply AWp.exit | apply AWp.skip | omega | ((first | apply w_lss | apply w_idx | apply w_ld); iterate 3 exact rfl) | ((first | apply w_idxs | apply w_lds); iterate 3 exact rfl) | (apply w_ldb; iterate 5 exact rfl) | ((apply w_stbi); iterate 4 exact rfl) | (apply w_alone; iterate 3 exact rfl))
    refine AOps.freeze 5 1 rfl rfl ?_
    refine AOps.pin 0 rfl cnt_ptr fun B V hV => ?_
    try simp only [List.nil_append, List.cons_append, List.set_cons_zero, List.set_cons_succ, List.length_cons, List.length_nil, Nat.reduceAdd, AV.sh, AV.sh1, AV.sh0, AO.sh, List.map_cons, List.map_nil, Nat.zero_add, Nat.add_zero, setAll]
    have hd := (allDiv_c _ _ hzi (by omega) (gets Z (i : Nat)) r1 (geti (gets Z (i : Nat)) 0) r2 r3 B V hV).drop
    repeat' (first | (apply AOps.nil; try simp only [List.nil_append, List.cons_append, List.set_cons_zero, List.set_cons_succ, List.length_cons, List.length_nil, Nat.reduceAdd, AV.sh, AV.sh1, AV.sh0, AO.sh, List.map_cons, List.map_nil, Nat.zero_add, Nat.add_zero, setAll]) | (apply w_move; exact rfl; exact rfl) | apply AWp.region | (apply w_makef hV pinned1; exact rfl; exact rfl; exact rfl; exact rfl) | (apply w_callo 0 2 (hd); exact rfl; exact rfl; (focus ((repeat (first | exact imo_nil | refine imo_cons rfl (.val _) ?_ | refine imo_cons rfl (.ro _) ?_)); done)); simp only [Env.mp, List.map_cons, List.map_nil, List.set_cons_zero, List.set_cons_succ, AV.kill, AV.kill1, AO.kill, AV.noRow, AV.noRow1, AO.via, reduceIte, Nat.reduceEqDiff, Nat.reduceLT, Env.up, Nat.zero_ne_one, Nat.one_ne_zero, Nat.reduceAdd, List.cons_append, List.nil_append]) | ((apply w_add); iterate 3 exact rfl) | (apply inI_of <;> omega))
    exact ⟨i + 1, hlt, by omega, ⟨lee rfl (by (repeat (first | exact le_nil | refine le_eq rfl rfl ?_))), by (repeat (first | exact lo_nil | refine lo_eq rfl ?_)), rfl, rfl⟩⟩
  · repeat' (first | (apply AOps.nil; try simp only [List.nil_append, List.cons_append, List.set_cons_zero, List.set_cons_succ, List.length_cons, List.length_nil, Nat.reduceAdd, AV.sh, AV.sh1, AV.sh0, AO.sh, List.map_cons, List.map_nil, Nat.zero_add, Nat.add_zero, setAll]) | apply AWp.seq | apply AWp.region | ((apply AWp.condP; exact rfl) <;> intro h) | apply AWp.block | apply AWp.exit | apply AWp.skip | omega | ((apply w_lss); iterate 3 exact rfl))
    have e : i = Z.length := by omega
    subst e
    refine AOps.turns (Turns.split (h := 0) rfl rfl) ?_
    simp only [Env.mp, List.map_cons, List.map_nil, List.set_cons_zero, List.set_cons_succ, AV.kill, AV.kill1, AO.kill, AV.noRow, AV.noRow1, AO.via, reduceIte, Nat.reduceEqDiff, Nat.reduceLT, Env.up, Nat.zero_ne_one, Nat.one_ne_zero, Nat.reduceAdd, List.cons_append, List.nil_append]
    refine w_bsx0 1 rfl ?_
    try simp only [List.nil_append, List.cons_append, List.set_cons_zero, List.set_cons_succ, List.length_cons, List.length_nil, Nat.reduceAdd, AV.sh, AV.sh1, AV.sh0, AO.sh, List.map_cons, List.map_nil, Nat.zero_add, Nat.add_zero, setAll]
    repeat' (first | (apply AOps.nil; try simp only [List.nil_append, List.cons_append, List.set_cons_zero, List.set_cons_succ, List.length_cons, List.length_nil, Nat.reduceAdd, AV.sh, AV.sh1, AV.sh0, AO.sh, List.map_cons, List.map_nil, Nat.zero_add, Nat.add_zero, setAll]) | (apply w_move; exact rfl; exact rfl) | (apply w_assign; exact rfl; exact rfl) | apply AWp.seq | apply AWp.region | apply AWp.block | (apply w_len; exact rfl; exact rfl; first | exact .ints _ | exact .intss _ | exact .sli rfl | exact .sls rfl | exact .slr rfl | exact .orow rfl | exact .nil) | ((first | apply w_ld | apply w_fa); iterate 3 exact rfl) | (apply w_ldb; iterate 5 exact rfl))
    have hzl2 := (zok_of hzi (by omega)).2
    have hrl : ∀ n : Nat, n < (numZ Z Z.length).length → ((numZ Z Z.length).getD (n : Int).toNat []).length = 2 := fun n hn => by
      have := (hzi.row _ (at_mem hn)).1
      rw [Int.toNat_natCast]; exact this
    generalize numZ Z Z.length = L at *
    refine AWp.loop (ι := Nat) (fun n => ⟨41, [(6, .own 2), (25, .own 1), (26, .i L.length), (27, .i n)]⟩) (fun n => [.bx 60 [.own 1], .sls 26 2 L, .slr 26 ((nzI L n).map (AV.orow 1))]) (fun n => n ≤ L.length) (fun n => L.length - n) 0 (by omega) ⟨lee rfl (by (repeat (first | exact le_nil | refine le_eq rfl rfl ?_))), by (repeat (first | exact lo_nil | refine lo_eq rfl ?_)), rfl, by first | exact rfl | exact lim9 _⟩ ?_
    rintro n n0
    have hnl := nzI_len L n
    by_cases hn : n < L.length
    · have hr := hrl n hn
      have hs : nzI L (n + 1) = if geti (L.getD (n : Int).toNat []) ((Int.toNat 1 : Nat) : Int) ≠ 0 then nzI L n ++ [n] else nzI L n := rfl
      by_cases h0 : geti (L.getD (n : Int).toNat []) ((Int.toNat 1 : Nat) : Int) ≠ 0
      · rw [if_pos h0] at hs
        repeat' (first | (apply AOps.nil; try simp only [List.nil_append, List.cons_append, List.set_cons_zero, List.set_cons_succ, List.length_cons, List.length_nil, Nat.reduceAdd, AV.sh, AV.sh1, AV.sh0, AO.sh, List.map_cons, List.map_nil, Nat.zero_add, Nat.add_zero, setAll]) | (apply w_move; exact rfl; exact rfl) | (apply w_assign; exact rfl; exact rfl) | apply AWp.seq | apply AWp.region | ((apply AWp.condP; exact rfl) <;> intro h) | apply AWp.block | apply AWp.ret | apply AWp.exit | apply AWp.skip | ((first | apply w_bsx1 | apply w_lss | apply w_neq | apply w_add | apply w_idx | apply w_ld); iterate 3 exact rfl) | (apply w_appx; exact rfl; exact rfl; exact rfl; exact rfl; exact rfl; rotate_left 1; simp only [Env.mp, List.map_cons, List.map_nil, List.set_cons_zero, List.set_cons_succ, AV.kill, AV.kill1, AO.kill, AV.rin, AV.rin1, AV.noRow, AV.noRow1, AO.via, reduceIte, Nat.reduceEqDiff, Nat.reduceLT, Env.up, Nat.zero_ne_one, Nat.one_ne_zero, Nat.reduceAdd, List.cons_append, List.nil_append]; rotate_left 1) | omega | (apply w_idxo; exact rfl; exact rfl; (exact .sls rfl); exact rfl) | ((first | apply w_idxr | apply w_ldr); iterate 4 exact rfl) | (apply w_ldls; iterate 4 exact rfl) | (apply w_ldrp; iterate 4 exact rfl) | (apply inI_of <;> omega))
        have hs' : nzI L (n + 1) = nzI L n ++ [(n : Int).toNat] := hs
        exact ⟨n + 1, hn, by omega, by rw [hs']; exact ⟨lee rfl (by (repeat (first | exact le_nil | refine le_eq rfl rfl ?_))), by (repeat (first | exact lo_nil | refine lo_eq rfl ?_)), rfl, by first | exact rfl | exact lim9 _⟩⟩
      · rw [if_neg h0] at hs
        repeat' (first | (apply AOps.nil; try simp only [List.nil_append, List.cons_append, List.set_cons_zero, List.set_cons_succ, List.length_cons, List.length_nil, Nat.reduceAdd, AV.sh, AV.sh1, AV.sh0, AO.sh, List.map_cons, List.map_nil, Nat.zero_add, Nat.add_zero, setAll]) | (apply w_move; exact rfl; exact rfl) | (apply w_assign; exact rfl; exact rfl) | apply AWp.seq | apply AWp.region | ((apply AWp.condP; exact rfl) <;> intro h) | apply AWp.block | apply AWp.ret | apply AWp.exit | apply AWp.skip | ((first | apply w_bsx1 | apply w_lss | apply w_neq | apply w_add | apply w_idx | apply w_ld); iterate 3 exact rfl) | (apply w_appx; exact rfl; exact rfl; exact rfl; exact rfl; exact rfl; rotate_left 1; simp only [Env.mp, List.map_cons, List.map_nil, List.set_cons_zero, List.set_cons_succ, AV.kill, AV.kill1, AO.kill, AV.rin, AV.rin1, AV.noRow, AV.noRow1, AO.via, reduceIte, Nat.reduceEqDiff, Nat.reduceLT, Env.up, Nat.zero_ne_one, Nat.one_ne_zero, Nat.reduceAdd, List.cons_append, List.nil_append]; rotate_left 1) | omega | (apply w_idxo; exact rfl; exact rfl; (exact .sls rfl); exact rfl) | ((first | apply w_idxr | apply w_ldr); iterate 4 exact rfl) | (apply w_ldls; iterate 4 exact rfl) | (apply w_ldrp; iterate 4 exact rfl) | (apply inI_of <;> omega))
        exact ⟨n + 1, hn, by omega, by rw [hs]; exact ⟨lee rfl (by (repeat (first | exact le_nil | refine le_eq rfl rfl ?_))), by (repeat (first | exact lo_nil | refine lo_eq rfl ?_)), rfl, by first | exact rfl | exact lim9 _⟩⟩
    · have e : n = L.length := by omega
      subst e
      refine AWp.merge (p := 2) (k := 1) rfl rfl (nzI_nodup L _) ?_
      simp only [Env.mp, List.map_cons, List.map_nil, List.set_cons_zero, List.set_cons_succ, AV.kill, AV.kill1, AO.kill, AV.noRow, AV.noRow1, AO.via, reduceIte, Nat.reduceEqDiff, Nat.reduceLT, Env.up, Nat.zero_ne_one, Nat.one_ne_zero, Nat.reduceAdd, List.cons_append, List.nil_append]
      rw [nzI_rows L _ (Nat.le_refl _)]
      repeat' (first | (apply AOps.nil; try simp only [List.nil_append, List.cons_append, List.set_cons_zero, List.set_cons_succ, List.length_cons, List.length_nil, Nat.reduceAdd, AV.sh, AV.sh1, AV.sh0, AO.sh, List.map_cons, List.map_nil, Nat.zero_add, Nat.add_zero, setAll]) | (apply w_move; exact rfl; exact rfl) | (apply w_assign; exact rfl; exact rfl) | apply AWp.seq | apply AWp.region | ((apply AWp.condP; exact rfl) <;> intro h) | apply AWp.block | apply AWp.ret | apply AWp.exit | apply AWp.skip | omega | ((apply w_lss); iterate 3 exact rfl))
      exact ⟨_, _, _, .v1 Try.results52 rfl, .sls rfl, rfl, rfl⟩
end Go.Proofs.Ytkcbihmpjkkccaa
/-
  Zeta lists: whether a list is one. No condition.
-/
namespace Go.Proofs.Ytkcbihmpjkkccaa
open Go Go.RowKit
attribute [local irreducible] AWp AOps ResIs Ret1 QOp LOp COp AFnV AFn Imms LeE LeO
set_option maxHeartbeats 1000000
set_option linter.unusedSimpArgs false
set_option linter.unusedVariables false

/-- The i-th row of a zeta list. -/
def ZR (xss : List (List Int)) (i : Nat) : Prop :=
  (gets xss i).length = 2 ∧ (1 ≤ geti (gets xss i) 0 ∧ geti (gets xss i) 0 ≤ 1000000) ∧ (-1000 ≤ geti (gets xss i) 1 ∧ geti (gets xss i) 1 ≤ 1000) ∧ geti (gets xss i) 1 ≠ 0 ∧
    (0 < i → geti (gets xss ((i : Int) - 1)) 0 < geti (gets xss i) 0)
def IsZ (xss : List (List Int)) : Prop := xss.length ≤ 40 ∧ ∀ j, j < xss.length → ZR xss j
noncomputable instance (xss : List (List Int)) : Decidable (IsZ xss) := Classical.propDecidable _
noncomputable def isZ (xss : List (List Int)) : Bool := decide (IsZ xss)

theorem isZ_false {xss : List (List Int)} {i : Nat} (hi : i < xss.length) (h : ¬ ZR xss i) : false = isZ xss := (decide_eq_false fun hz => h (hz.2 i hi)).symm
theorem isZ_long {xss : List (List Int)} (h : ¬ xss.length ≤ 40) : false = isZ xss := (decide_eq_false fun hz => h hz.1).symm
theorem isZ_all {xss : List (List Int)} (h : ∀ j, j < xss.length → ZR xss j) : isZ xss = decide (xss.length ≤ 40) := by
  unfold isZ
  by_cases h2 : xss.length ≤ 40
  · rw [decide_eq_true ⟨h2, h⟩, decide_eq_true h2]
  · rw [decide_eq_false (fun hz => h2 hz.1), decide_eq_false h2]

theorem implIsZetaList_c (xss : List (List Int)) : AFnV Try.prog 51 [.intss xss] (.bool (isZ xss)) := by
  (refine AFnV.start Try.func51 Try.ntmps51 rfl (by kernel_rfl) fun hk0 => ?_; simp only [Env.start, enumF, List.length_cons, List.length_nil, Nat.reduceAdd, Nat.reduceSub, List.cons_append, List.nil_append])
  obtain ⟨hk, hl⟩ : ArgOk (.intss xss) := hk0 _ (by simp)
  repeat' (first
  | (apply AOps.nil; try simp only [List.nil_append, List.cons_append, List.set_cons_zero, List.set_cons_succ, List.length_cons, List.length_nil, Nat.reduceAdd, AV.sh, AV.sh1, AV.sh0, AO.sh, List.map_cons, List.map_nil, Nat.zero_add, Nat.add_zero, setAll])
  | ((apply AOps.splitP; exact rfl; exact rfl) <;> intro h)
  | ((apply AOps.splitN; exact rfl; exact rfl) <;> intro h)
  | (apply w_move; exact rfl; exact rfl)
  | (apply w_assign; exact rfl; exact rfl)
  | apply AWp.seq
  | apply AWp.region
  | ((apply AWp.condP; exact rfl) <;> intro h)
  | ((apply AWp.condN; exact rfl) <;> intro h)
  | (apply AWp.condT; exact rfl)
  | (apply AWp.condF; exact rfl)
  | ((apply AWp.condB; exact rfl) <;> intro h)
  | apply AWp.block
  | apply AWp.ret
  | apply AWp.exit
  | apply AWp.skip
  | (apply AWp.regionQ; kernel_rfl; kernel_rfl)
  | (apply if_pos'; exact rfl)
  | (apply if_neg'; decide)
  | (apply w_skip; exact rfl)
  | (apply w_pickT; exact rfl; exact rfl; exact rfl)
  | (apply w_pickF; exact rfl; exact rfl; exact rfl)
  | (apply w_len; exact rfl; exact rfl; first | exact .ints _ | exact .intss _ | exact .sli rfl | exact .sls rfl | exact .slr rfl | exact .orow rfl | exact .nil)
  | ((first | apply w_lss | apply w_leq | apply w_gtr | apply w_geq | apply w_eql | apply w_neq | apply w_add | apply w_sub | apply w_mul | apply w_idx | apply w_ld | apply w_fld | apply w_fa | apply w_extv | apply w_min | apply w_max | apply w_slhi | apply w_sllo | apply w_bs2); iterate 3 exact rfl)
  | ((first | apply w_eqlb | apply w_neqb | apply w_idxs | apply w_lds | apply w_ext); iterate 3 exact rfl)
  | (apply w_rem; exact rfl; exact rfl; exact rfl; (focus (omega; done)); (focus (omega; done)))
  | (apply w_quo; exact rfl; exact rfl; exact rfl; (focus (omega; done)); (focus (omega; done)))
  | (apply w_remT; exact rfl; exact rfl; exact rfl)
  | (apply w_quoT; exact rfl; exact rfl; exact rfl)
  | ((first | apply w_not | apply w_neg | apply w_conv | apply w_build0 | apply w_bs1 | apply w_boxa); iterate 2 exact rfl)
  | (apply w_idxo; exact rfl; exact rfl; (first | exact .sli rfl | exact .sls rfl | exact .slr rfl); exact rfl)
  | ((first | apply w_idxr | apply w_ldr); iterate 4 exact rfl)
  | (apply w_ldo; iterate 4 exact rfl)
  | (apply w_ldls; iterate 4 exact rfl)
  | (apply w_ldrp; iterate 4 exact rfl)
  | (apply w_ldb; iterate 5 exact rfl)
  | (apply w_ldst; iterate 5 exact rfl)
  | ((first | apply w_sllh | apply w_stbi); iterate 4 exact rfl)
  | ((first | apply w_oslo | apply w_oshi | apply w_stbii); iterate 4 exact rfl)
  | (apply w_copy; exact rfl; (first | exact .own rfl rfl rfl | exact .osub); exact rfl; rotate_left 1; exact rfl; (first | exact .ints _ | exact .sli rfl | exact .orow rfl | exact .nil | exact .osub rfl (by simp; omega)))
  | (apply w_build1; exact rfl; exact rfl; (first | exact one_val rfl rfl | exact one_ints | exact one_intss | exact one_own rfl True.intro))
  | (apply w_build2; exact rfl; exact rfl; exact rfl; (first | exact one_val rfl rfl | exact one_ints | exact one_intss | exact one_own rfl True.intro); (first | exact one_val rfl rfl | exact one_ints | exact one_intss | exact one_own rfl True.intro))
  | (apply w_bs0; iterate 1 exact rfl)
  | (apply w_appn; exact rfl; exact rfl; (first | exact .ints _ | exact .sli rfl | exact .orow rfl | exact .nil | exact .osub rfl (by simp; omega)); exact rfl)
  | (apply w_app; exact rfl; exact rfl; exact rfl; exact rfl; (first | exact .ints _ | exact .sli rfl | exact .orow rfl | exact .nil | exact .osub rfl (by simp; omega)); rotate_left 1; simp only [Env.mp, List.map_cons, List.map_nil, List.set_cons_zero, List.set_cons_succ, AV.kill, AV.kill1, AO.kill, AV.noRow, AV.noRow1, AO.via, reduceIte, Nat.reduceEqDiff, Nat.reduceLT, Env.up, Nat.zero_ne_one, Nat.one_ne_zero, Nat.reduceAdd, List.cons_append, List.nil_append]; rotate_left 1)
  | (apply w_alst; iterate 2 exact rfl)
  | (apply w_alone; iterate 3 exact rfl)
  | (apply w_mki; exact rfl; exact rfl; rotate_left 3; exact rfl; rotate_left 1)
  | (apply w_mkr; exact rfl; exact rfl; rotate_left 3; exact rfl; rotate_left 1)
  | (apply w_strow; exact rfl; exact rfl; rotate_left 1; exact rfl; exact rfl; exact rfl; exact rfl; simp only [Env.mp, List.map_cons, List.map_nil, List.set_cons_zero, List.set_cons_succ, AV.kill, AV.kill1, AO.kill, AV.noRow, AV.noRow1, AO.via, reduceIte, Nat.reduceEqDiff, Nat.reduceLT, Env.up, Nat.zero_ne_one, Nat.one_ne_zero, Nat.reduceAdd, List.cons_append, List.nil_append]; rotate_left 1)
  | (apply w_sti; exact rfl; exact rfl; rotate_left 1; exact rfl; rotate_left 2)
  | (apply w_stst; iterate 5 exact rfl)
  | (apply w_stbv; iterate 6 exact rfl)
  | (apply w_stbo; exact rfl; exact rfl; exact rfl; exact rfl; exact rfl; exact True.intro)
  | ((apply AOps.splitB; exact rfl; exact rfl) <;> intro h)
  | apply AllOf.nil
  | (apply AllOf.cons; exact rfl)
  | (apply AAny.take; exact rfl; exact rfl; kernel_rfl; kernel_rfl)
  | (apply AAny.all; exact rfl)
  | (apply AAny.done; exact rfl)
  | (apply inI_of <;> omega)
  | omega
  | (simp <;> omega))
  · exact .bool Try.results51 rfl (isZ_long (by omega))
  refine AWp.loop (ι := Nat) (fun i => ⟨54, [(0, .intss xss), (8, .intss xss), (9, .i xss.length), (10, .i i)]⟩) (fun _ => []) (fun i => i ≤ xss.length ∧ ∀ j, j < i → ZR xss j) (fun i => xss.length - i) 0 ⟨by omega, fun j hj => by omega⟩ ⟨lee rfl (by (repeat (first | exact le_nil | refine le_eq rfl rfl ?_ | refine le_eq rfl (congrArg AV.i (by omega)) ?_))), by (repeat (first | exact lo_nil | refine lo_dead ?_ | refine lo_eq rfl ?_)), rfl, rfl⟩ ?_
  rintro i ⟨h0, h1⟩
  have hprev : 0 < i → (gets xss ((i : Int) - 1)).length = 2 := by
    intro h
    have := (h1 (i - 1) (by omega)).1
    rwa [show ((i : Int) - 1) = ((i - 1 : Nat) : Int) by omega]
  by_cases hi0 : 0 < i
  · have hprev' := hprev hi0
    repeat' (first
  | (apply AOps.nil; try simp only [List.nil_append, List.cons_append, List.set_cons_zero, List.set_cons_succ, List.length_cons, List.length_nil, Nat.reduceAdd, AV.sh, AV.sh1, AV.sh0, AO.sh, List.map_cons, List.map_nil, Nat.zero_add, Nat.add_zero, setAll])
  | ((apply AOps.splitP; exact rfl; exact rfl) <;> intro h)
  | ((apply AOps.splitN; exact rfl; exact rfl) <;> intro h)
  | (apply w_move; exact rfl; exact rfl)
  | (apply w_assign; exact rfl; exact rfl)
  | apply AWp.seq
  | apply AWp.region
  | ((apply AWp.condP; exact rfl) <;> intro h)
  | ((apply AWp.condN; exact rfl) <;> intro h)
  | (apply AWp.condT; exact rfl)
  | (apply AWp.condF; exact rfl)
  | ((apply AWp.condB; exact rfl) <;> intro h)
  | apply AWp.block
  | apply AWp.ret
  | apply AWp.exit
  | apply AWp.skip
  | (apply AWp.regionQ; kernel_rfl; kernel_rfl)
  | (apply if_pos'; exact rfl)
  | (apply if_neg'; decide)
  | (apply w_skip; exact rfl)
  | (apply w_pickT; exact rfl; exact rfl; exact rfl)
  | (apply w_pickF; exact rfl; exact rfl; exact rfl)
  | (apply w_len; exact rfl; exact rfl; first | exact .ints _ | exact .intss _ | exact .sli rfl | exact .sls rfl | exact .slr rfl | exact .orow rfl | exact .nil)
  | (apply w_call (inRange_c _ _ _); exact rfl; exact rfl; focus ((repeat (first | exact im_nil | refine im_cons rfl (.val _) ?_ | refine im_cons rfl (.ints _) ?_ | refine im_cons rfl (.intss _) ?_ | refine im_cons rfl (.sli rfl) ?_ | refine im_cons rfl (.sls rfl) ?_ | refine im_cons rfl (.orow rfl) ?_ | refine im_cons rfl (.osub rfl (by simp; omega)) ?_ | refine im_cons rfl (.nil) ?_ | refine im_cons rfl (.nils) ?_ | refine im_cons rfl (im_agg2 (.val _) (.ints _)) ?_ | refine im_cons rfl (im_agg2 (.val _) (.sli rfl)) ?_ | refine im_cons rfl (im_agg2 (.val _) (.nil)) ?_ | refine im_cons rfl (im_agg2 (.ints _) (.intss _)) ?_ | refine im_cons rfl (im_agg2 (.ints _) (.sls rfl)) ?_ | refine im_cons rfl (im_agg2 (.sli rfl) (.intss _)) ?_ | refine im_cons rfl (im_agg2 (.sli rfl) (.sls rfl)) ?_ | refine im_cons rfl (im_agg1 (.ints _)) ?_ | refine im_cons rfl (im_agg1 (.sli rfl)) ?_ | refine im_cons rfl (im_agg1 (.intss _)) ?_ | refine im_cons rfl (im_agg1 (.sls rfl)) ?_ | refine im_cons rfl (im_agg1 (.nil)) ?_ | refine im_cons rfl (im_agg1 (.nils)) ?_)); done))
  | ((first | apply w_lss | apply w_leq | apply w_gtr | apply w_geq | apply w_eql | apply w_neq | apply w_add | apply w_sub | apply w_mul | apply w_idx | apply w_ld | apply w_fld | apply w_fa | apply w_extv | apply w_min | apply w_max | apply w_slhi | apply w_sllo | apply w_bs2); iterate 3 exact rfl)
  | ((first | apply w_eqlb | apply w_neqb | apply w_idxs | apply w_lds | apply w_ext); iterate 3 exact rfl)
  | (apply w_rem; exact rfl; exact rfl; exact rfl; (focus (omega; done)); (focus (omega; done)))
  | (apply w_quo; exact rfl; exact rfl; exact rfl; (focus (omega; done)); (focus (omega; done)))
  | (apply w_remT; exact rfl; exact rfl; exact rfl)
  | (apply w_quoT; exact rfl; exact rfl; exact rfl)
  | ((first | apply w_not | apply w_neg | apply w_conv | apply w_build0 | apply w_bs1 | apply w_boxa); iterate 2 exact rfl)
  | (apply w_idxo; exact rfl; exact rfl; (first | exact .sli rfl | exact .sls rfl | exact .slr rfl); exact rfl)
  | ((first | apply w_idxr | apply w_ldr); iterate 4 exact rfl)
  | (apply w_ldo; iterate 4 exact rfl)
  | (apply w_ldls; iterate 4 exact rfl)
  | (apply w_ldrp; iterate 4 exact rfl)
  | (apply w_ldb; iterate 5 exact rfl)
  | (apply w_ldst; iterate 5 exact rfl)
  | ((first | apply w_sllh | apply w_stbi); iterate 4 exact rfl)
  | ((first | apply w_oslo | apply w_oshi | apply w_stbii); iterate 4 exact rfl)
  | (apply w_copy; exact rfl; (first | exact .own rfl rfl rfl | exact .osub); exact rfl; rotate_left 1; exact rfl; (first | exact .ints _ | exact .sli rfl | exact .orow rfl | exact .nil | exact .osub rfl (by simp; omega)))
  | (apply w_build1; exact rfl; exact rfl; (first | exact one_val rfl rfl | exact one_ints | exact one_intss | exact one_own rfl True.intro))
  | (apply w_build2; exact rfl; exact rfl; exact rfl; (first | exact one_val rfl rfl | exact one_ints | exact one_intss | exact one_own rfl True.intro); (first | exact one_val rfl rfl | exact one_ints | exact one_intss | exact one_own rfl True.intro))
  | (apply w_bs0; iterate 1 exact rfl)
  | (apply w_appn; exact rfl; exact rfl; (first | exact .ints _ | exact .sli rfl | exact .orow rfl | exact .nil | exact .osub rfl (by simp; omega)); exact rfl)
  | (apply w_app; exact rfl; exact rfl; exact rfl; exact rfl; (first | exact .ints _ | exact .sli rfl | exact .orow rfl | exact .nil | exact .osub rfl (by simp; omega)); rotate_left 1; simp only [Env.mp, List.map_cons, List.map_nil, List.set_cons_zero, List.set_cons_succ, AV.kill, AV.kill1, AO.kill, AV.noRow, AV.noRow1, AO.via, reduceIte, Nat.reduceEqDiff, Nat.reduceLT, Env.up, Nat.zero_ne_one, Nat.one_ne_zero, Nat.reduceAdd, List.cons_append, List.nil_append]; rotate_left 1)
  | (apply w_alst; iterate 2 exact rfl)
  | (apply w_alone; iterate 3 exact rfl)
  | (apply w_mki; exact rfl; exact rfl; rotate_left 3; exact rfl; rotate_left 1)
  | (apply w_mkr; exact rfl; exact rfl; rotate_left 3; exact rfl; rotate_left 1)
  | (apply w_strow; exact rfl; exact rfl; rotate_left 1; exact rfl; exact rfl; exact rfl; exact rfl; simp only [Env.mp, List.map_cons, List.map_nil, List.set_cons_zero, List.set_cons_succ, AV.kill, AV.kill1, AO.kill, AV.noRow, AV.noRow1, AO.via, reduceIte, Nat.reduceEqDiff, Nat.reduceLT, Env.up, Nat.zero_ne_one, Nat.one_ne_zero, Nat.reduceAdd, List.cons_append, List.nil_append]; rotate_left 1)
  | (apply w_sti; exact rfl; exact rfl; rotate_left 1; exact rfl; rotate_left 2)
  | (apply w_stst; iterate 5 exact rfl)
  | (apply w_stbv; iterate 6 exact rfl)
  | (apply w_stbo; exact rfl; exact rfl; exact rfl; exact rfl; exact rfl; exact True.intro)
  | ((apply AOps.splitB; exact rfl; exact rfl) <;> intro h)
  | apply AllOf.nil
  | (apply AllOf.cons; exact rfl)
  | (apply AAny.take; exact rfl; exact rfl; kernel_rfl; kernel_rfl)
  | (apply AAny.all; exact rfl)
  | (apply AAny.done; exact rfl)
  | (apply inI_of <;> omega)
  | omega
  | (simp <;> omega))
    all_goals first
      | exact .bool Try.results51 rfl (isZ_false (i := i) (by omega) (fun hz => by unfold ZR at hz; omega))
      | (refine ⟨i + 1, ⟨by omega, fun j hj => ?_⟩, by omega, ⟨lee rfl (by (repeat (first | exact le_nil | refine le_eq rfl rfl ?_ | refine le_eq rfl (congrArg AV.i (by omega)) ?_))), by (repeat (first | exact lo_nil | refine lo_dead ?_ | refine lo_eq rfl ?_)), rfl, rfl⟩⟩
         by_cases e : j = i
         · subst e
           unfold ZR
           omega
         · exact h1 j (by omega))
      | (have e : i = xss.length := by omega
         subst e
         exact .bool Try.results51 rfl (by rw [isZ_all h1]; simp; try omega))
  · obtain rfl : i = 0 := by omega
    simp only [Int.natCast_zero] at *
    repeat' (first
  | (apply AOps.nil; try simp only [List.nil_append, List.cons_append, List.set_cons_zero, List.set_cons_succ, List.length_cons, List.length_nil, Nat.reduceAdd, AV.sh, AV.sh1, AV.sh0, AO.sh, List.map_cons, List.map_nil, Nat.zero_add, Nat.add_zero, setAll])
  | ((apply AOps.splitP; exact rfl; exact rfl) <;> intro h)
  | ((apply AOps.splitN; exact rfl; exact rfl) <;> intro h)
  | (apply w_move; exact rfl; exact rfl)
  | (apply w_assign; exact rfl; exact rfl)
  | apply AWp.seq
  | apply AWp.region
  | ((apply AWp.condP; exact rfl) <;> intro h)
  | ((apply AWp.condN; exact rfl) <;> intro h)
  | (apply AWp.condT; exact rfl)
  | (apply AWp.condF; exact rfl)
  | ((apply AWp.condB; exact rfl) <;> intro h)
  | apply AWp.block
  | apply AWp.ret
  | apply AWp.exit
  | apply AWp.skip
  | (apply AWp.regionQ; kernel_rfl; kernel_rfl)
  | (apply if_pos'; exact rfl)
  | (apply if_neg'; decide)
  | (apply w_skip; exact rfl)
  | (apply w_pickT; exact rfl; exact rfl; exact rfl)
  | (apply w_pickF; exact rfl; exact rfl; exact rfl)
  | (apply w_len; exact rfl; exact rfl; first | exact .ints _ | exact .intss _ | exact .sli rfl | exact .sls rfl | exact .slr rfl | exact .orow rfl | exact .nil)
  | (apply w_call (inRange_c _ _ _); exact rfl; exact rfl; focus ((repeat (first | exact im_nil | refine im_cons rfl (.val _) ?_ | refine im_cons rfl (.ints _) ?_ | refine im_cons rfl (.intss _) ?_ | refine im_cons rfl (.sli rfl) ?_ | refine im_cons rfl (.sls rfl) ?_ | refine im_cons rfl (.orow rfl) ?_ | refine im_cons rfl (.osub rfl (by simp; omega)) ?_ | refine im_cons rfl (.nil) ?_ | refine im_cons rfl (.nils) ?_ | refine im_cons rfl (im_agg2 (.val _) (.ints _)) ?_ | refine im_cons rfl (im_agg2 (.val _) (.sli rfl)) ?_ | refine im_cons rfl (im_agg2 (.val _) (.nil)) ?_ | refine im_cons rfl (im_agg2 (.ints _) (.intss _)) ?_ | refine im_cons rfl (im_agg2 (.ints _) (.sls rfl)) ?_ | refine im_cons rfl (im_agg2 (.sli rfl) (.intss _)) ?_ | refine im_cons rfl (im_agg2 (.sli rfl) (.sls rfl)) ?_ | refine im_cons rfl (im_agg1 (.ints _)) ?_ | refine im_cons rfl (im_agg1 (.sli rfl)) ?_ | refine im_cons rfl (im_agg1 (.intss _)) ?_ | refine im_cons rfl (im_agg1 (.sls rfl)) ?_ | refine im_cons rfl (im_agg1 (.nil)) ?_ | refine im_cons rfl (im_agg1 (.nils)) ?_)); done))
  | ((first | apply w_lss | apply w_leq | apply w_gtr | apply w_geq | apply w_eql | apply w_neq | apply w_add | apply w_sub | apply w_mul | apply w_idx | apply w_ld | apply w_fld | apply w_fa | apply w_extv | apply w_min | apply w_max | apply w_slhi | apply w_sllo | apply w_bs2); iterate 3 exact rfl)
  | ((first | apply w_eqlb | apply w_neqb | apply w_idxs | apply w_lds | apply w_ext); iterate 3 exact rfl)
  | (apply w_rem; exact rfl; exact rfl; exact rfl; (focus (omega; done)); (focus (omega; done)))
  | (apply w_quo; exact rfl; exact rfl; exact rfl; (focus (omega; done)); (focus (omega; done)))
  | (apply w_remT; exact rfl; exact rfl; exact rfl)
  | (apply w_quoT; exact rfl; exact rfl; exact rfl)
  | ((first | apply w_not | apply w_neg | apply w_conv | apply w_build0 | apply w_bs1 | apply w_boxa); iterate 2 exact rfl)
  | (apply w_idxo; exact rfl; exact rfl; (first | exact .sli rfl | exact .sls rfl | exact .slr rfl); exact rfl)
  | ((first | apply w_idxr | apply w_ldr); iterate 4 exact rfl)
  | (apply w_ldo; iterate 4 exact rfl)
  | (apply w_ldls; iterate 4 exact rfl)
  | (apply w_ldrp; iterate 4 exact rfl)
  | (apply w_ldb; iterate 5 exact rfl)
  | (apply w_ldst; iterate 5 exact rfl)
  | ((first | apply w_sllh | apply w_stbi); iterate 4 exact rfl)
  | ((first | apply w_oslo | apply w_oshi | apply w_stbii); iterate 4 exact rfl)
  | (apply w_copy; exact rfl; (first | exact .own rfl rfl rfl | exact .osub); exact rfl; rotate_left 1; exact rfl; (first | exact .ints _ | exact .sli rfl | exact .orow rfl | exact .nil | exact .osub rfl (by simp; omega)))
  | (apply w_build1; exact rfl; exact rfl; (first | exact one_val rfl rfl | exact one_ints | exact one_intss | exact one_own rfl True.intro))
  | (apply w_build2; exact rfl; exact rfl; exact rfl; (first | exact one_val rfl rfl | exact one_ints | exact one_intss | exact one_own rfl True.intro); (first | exact one_val rfl rfl | exact one_ints | exact one_intss | exact one_own rfl True.intro))
  | (apply w_bs0; iterate 1 exact rfl)
  | (apply w_appn; exact rfl; exact rfl; (first | exact .ints _ | exact .sli rfl | exact .orow rfl | exact .nil | exact .osub rfl (by simp; omega)); exact rfl)
  | (apply w_app; exact rfl; exact rfl; exact rfl; exact rfl; (first | exact .ints _ | exact .sli rfl | exact .orow rfl | exact .nil | exact .osub rfl (by simp; omega)); rotate_left 1; simp only [Env.mp, List.map_cons, List.map_nil, List.set_cons_zero, List.set_cons_succ, AV.kill, AV.kill1, AO.kill, AV.noRow, AV.noRow1, AO.via, reduceIte, Nat.reduceEqDiff, Nat.reduceLT, Env.up, Nat.zero_ne_one, Nat.one_ne_zero, Nat.reduceAdd, List.cons_append, List.nil_append]; rotate_left 1)
  | (apply w_alst; iterate 2 exact rfl)
  | (apply w_alone; iterate 3 exact rfl)
  | (apply w_mki; exact rfl; exact rfl; rotate_left 3; exact rfl; rotate_left 1)
  | (apply w_mkr; exact rfl; exact rfl; rotate_left 3; exact rfl; rotate_left 1)
  | (apply w_strow; exact rfl; exact rfl; rotate_left 1; exact rfl; exact rfl; exact rfl; exact rfl; simp only [Env.mp, List.map_cons, List.map_nil, List.set_cons_zero, List.set_cons_succ, AV.kill, AV.kill1, AO.kill, AV.noRow, AV.noRow1, AO.via, reduceIte, Nat.reduceEqDiff, Nat.reduceLT, Env.up, Nat.zero_ne_one, Nat.one_ne_zero, Nat.reduceAdd, List.cons_append, List.nil_append]; rotate_left 1)
  | (apply w_sti; exact rfl; exact rfl; rotate_left 1; exact rfl; rotate_left 2)
  | (apply w_stst; iterate 5 exact rfl)
  | (apply w_stbv; iterate 6 exact rfl)
  | (apply w_stbo; exact rfl; exact rfl; exact rfl; exact rfl; exact rfl; exact True.intro)
  | ((apply AOps.splitB; exact rfl; exact rfl) <;> intro h)
  | apply AllOf.nil
  | (apply AllOf.cons; exact rfl)
  | (apply AAny.take; exact rfl; exact rfl; kernel_rfl; kernel_rfl)
  | (apply AAny.all; exact rfl)
  | (apply AAny.done; exact rfl)
  | (apply inI_of <;> omega)
  | omega
  | (simp <;> omega))
    all_goals first
      | exact .bool Try.results51 rfl (isZ_false (i := 0) (by omega) (fun hz => by unfold ZR at hz; simp only [Int.natCast_zero] at hz; omega))
      | (refine ⟨0 + 1, ⟨by omega, fun j hj => ?_⟩, by omega, ⟨lee rfl (by (repeat (first | exact le_nil | refine le_eq rfl rfl ?_ | refine le_eq rfl (congrArg AV.i (by omega)) ?_))), by (repeat (first | exact lo_nil | refine lo_dead ?_ | refine lo_eq rfl ?_)), rfl, rfl⟩⟩
         obtain rfl : j = 0 := by omega
         unfold ZR
         simp only [Int.natCast_zero]
         omega)
      | (exact .bool Try.results51 rfl (by rw [isZ_all fun j hj => by omega]; simp; try omega))

end Go.Proofs.Ytkcbihmpjkkccaa
