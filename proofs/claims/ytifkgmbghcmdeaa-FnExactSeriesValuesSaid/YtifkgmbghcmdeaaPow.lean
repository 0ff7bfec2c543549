/-
  Powers in the field of 55441 elements, in the program and in the model. No condition but that the base lies in the field and the exponent is no greater than 2^62.
-/
import Derived.Test.YtifkgmbghcmdeaaBase
namespace Go.Proofs.Ytifkgmbghcmdeaa
open Go Go.RowKit
attribute [local irreducible] AWp AOps ResIs Ret1 QOp LOp COp AFnV AFn Imms LeE LeO
set_option maxHeartbeats 1000000
set_option linter.unusedSimpArgs false
set_option linter.unusedVariables false

theorem mulB {a b : Int} (h0 : 0 ≤ a) (h1 : a ≤ 55440) (h2 : 0 ≤ b) (h3 : b ≤ 55440) : 0 ≤ a * b ∧ a * b ≤ 3073593600 := by
  refine ⟨Int.mul_nonneg h0 h2, ?_⟩
  have := Int.mul_le_mul h1 h3 h2 (by omega)
  omega

theorem modF (a : Int) : 0 ≤ a % 55441 ∧ a % 55441 ≤ 55440 := by
  have h1 := Int.emod_nonneg a (show (55441 : Int) ≠ 0 by omega)
  have h2 := Int.emod_lt_of_pos a (show (0 : Int) < 55441 by omega)
  omega

theorem mulmod (a b : Int) : (a % 55441) * b % 55441 = a * b % 55441 := by
  rw [Int.mul_emod, Int.emod_emod_of_dvd _ (Int.dvd_refl _), ← Int.mul_emod]
theorem mulmod' (a b : Int) : a * (b % 55441) % 55441 = a * b % 55441 := by
  rw [Int.mul_comm, mulmod, Int.mul_comm]
theorem powmod (x : Int) : ∀ m : Nat, (x % 55441) ^ m % 55441 = x ^ m % 55441
  | 0 => by simp
  | m + 1 => by
    rw [Int.pow_succ, Int.pow_succ, mulmod', ← mulmod, powmod x m, mulmod]
theorem sqpow (z : Int) : ∀ m : Nat, (z * z) ^ m = z ^ (2 * m)
  | 0 => by simp
  | m + 1 => by
    rw [Int.pow_succ, sqpow z m, show 2 * (m + 1) = 2 * m + 1 + 1 by omega, Int.pow_succ, Int.pow_succ, Int.mul_assoc]

/-- A power in the field. -/
def pwF (z : Int) (n : Int) : Int := z ^ n.toNat % 55441

theorem pw_even {o z n : Int} (h0 : 0 ≤ n) (h : n % 2 = 0) : o * (z * z % 55441) ^ (n / 2).toNat % 55441 = o * z ^ n.toNat % 55441 := by
  rw [← mulmod', powmod, mulmod', sqpow]
  congr 3
  omega
theorem pw_odd {o z n : Int} (h0 : 0 ≤ n) (h : n % 2 = 1) : (o * z % 55441) * (z * z % 55441) ^ (n / 2).toNat % 55441 = o * z ^ n.toNat % 55441 := by
  rw [mulmod, ← mulmod', powmod, mulmod', sqpow, Int.mul_assoc]
  have : n.toNat = 2 * (n / 2).toNat + 1 := by omega
  rw [this, Int.pow_succ, Int.mul_comm z]

theorem power_c (z n : Int) (hz : 0 ≤ z ∧ z ≤ 55440) (hn : 0 ≤ n ∧ n ≤ 4611686018427387904) : AFnV Try.prog 104 [.i z, .i n] (.int .i64 (pwF z n)) := by
  (refine AFnV.start Try.func104 Try.ntmps104 rfl (by kernel_rfl) fun hk => ?_; simp only [Env.start, enumF, List.length_cons, List.length_nil, Nat.reduceAdd, Nat.reduceSub, List.cons_append, List.nil_append])
  repeat' (first
  | (apply AOps.nil; try simp only [List.nil_append, List.cons_append, List.set_cons_zero, List.set_cons_succ, List.length_cons, List.length_nil, Nat.reduceAdd, AV.sh, AV.sh1, AV.sh0, AO.sh, List.map_cons, List.map_nil, Nat.zero_add, Nat.add_zero, setAll])
  | ((apply AOps.splitP; exact rfl; exact rfl) <;> intro h)
  | ((apply AOps.splitN; exact rfl; exact rfl) <;> intro h)
  | (apply w_move; exact rfl; exact rfl)
  | (apply w_assign; exact rfl; exact rfl)
  | apply AWp.seq
  | apply AWp.region
  | ((apply AWp.condP; exact rfl) <;> intro h)
  | ((apply AWp.condN; exact rfl) <;> intro h)
  | (apply AWp.condT; exact rfl)
  | (apply AWp.condF; exact rfl)
  | ((apply AWp.condB; exact rfl) <;> intro h)
  | apply AWp.block
  | apply AWp.ret
  | apply AWp.exit
  | apply AWp.skip
  | (apply AWp.regionQ; kernel_rfl; kernel_rfl)
  | (apply if_pos'; exact rfl)
  | (apply if_neg'; decide)
  | (apply w_skip; exact rfl)
  | (apply w_pickT; exact rfl; exact rfl; exact rfl)
  | (apply w_pickF; exact rfl; exact rfl; exact rfl)
  | (apply w_len; exact rfl; exact rfl; first | exact .ints _ | exact .intss _ | exact .sli rfl | exact .sls rfl | exact .slr rfl | exact .orow rfl | exact .nil)
  | ((first | apply w_lss | apply w_leq | apply w_gtr | apply w_geq | apply w_eql | apply w_neq | apply w_add | apply w_sub | apply w_mul | apply w_idx | apply w_ld | apply w_fld | apply w_fa | apply w_extv | apply w_min | apply w_max | apply w_slhi | apply w_sllo | apply w_bs2); iterate 3 exact rfl)
  | ((first | apply w_eqlb | apply w_neqb | apply w_idxs | apply w_lds | apply w_ext); iterate 3 exact rfl)
  | (apply w_rem; exact rfl; exact rfl; exact rfl; (focus (omega; done)); (focus (omega; done)))
  | (apply w_quo; exact rfl; exact rfl; exact rfl; (focus (omega; done)); (focus (omega; done)))
  | (apply w_remT; exact rfl; exact rfl; exact rfl)
  | (apply w_quoT; exact rfl; exact rfl; exact rfl)
  | ((first | apply w_not | apply w_neg | apply w_conv | apply w_build0 | apply w_bs1 | apply w_boxa); iterate 2 exact rfl)
  | (apply w_idxo; exact rfl; exact rfl; (first | exact .sli rfl | exact .sls rfl | exact .slr rfl); exact rfl)
  | ((first | apply w_idxr | apply w_ldr); iterate 4 exact rfl)
  | (apply w_ldo; iterate 4 exact rfl)
  | (apply w_ldls; iterate 4 exact rfl)
  | (apply w_ldrp; iterate 4 exact rfl)
  | (apply w_ldb; iterate 5 exact rfl)
  | (apply w_ldst; iterate 5 exact rfl)
  | ((first | apply w_sllh | apply w_stbi); iterate 4 exact rfl)
  | ((first | apply w_oslo | apply w_oshi | apply w_stbii); iterate 4 exact rfl)
  | (apply w_copy; exact rfl; (first | exact .own rfl rfl rfl | exact .osub); exact rfl; rotate_left 1; exact rfl; (first | exact .ints _ | exact .sli rfl | exact .orow rfl | exact .nil | exact .osub rfl (by simp; omega)))
  | (apply w_build1; exact rfl; exact rfl; (first | exact one_val rfl rfl | exact one_ints | exact one_intss | exact one_own rfl True.intro))
  | (apply w_build2; exact rfl; exact rfl; exact rfl; (first | exact one_val rfl rfl | exact one_ints | exact one_intss | exact one_own rfl True.intro); (first | exact one_val rfl rfl | exact one_ints | exact one_intss | exact one_own rfl True.intro))
  | (apply w_bs0; iterate 1 exact rfl)
  | (apply w_appn; exact rfl; exact rfl; (first | exact .ints _ | exact .sli rfl | exact .orow rfl | exact .nil | exact .osub rfl (by simp; omega)); exact rfl)
  | (apply w_app; exact rfl; exact rfl; exact rfl; exact rfl; (first | exact .ints _ | exact .sli rfl | exact .orow rfl | exact .nil | exact .osub rfl (by simp; omega)); rotate_left 1; simp only [Env.mp, List.map_cons, List.map_nil, List.set_cons_zero, List.set_cons_succ, AV.kill, AV.kill1, AO.kill, AV.noRow, AV.noRow1, AO.via, reduceIte, Nat.reduceEqDiff, Nat.reduceLT, Env.up, Nat.zero_ne_one, Nat.one_ne_zero, Nat.reduceAdd, List.cons_append, List.nil_append]; rotate_left 1)
  | (apply w_alst; iterate 2 exact rfl)
  | (apply w_alone; iterate 3 exact rfl)
  | (apply w_mki; exact rfl; exact rfl; rotate_left 3; exact rfl; rotate_left 1)
  | (apply w_mkr; exact rfl; exact rfl; rotate_left 3; exact rfl; rotate_left 1)
  | (apply w_strow; exact rfl; exact rfl; rotate_left 1; exact rfl; exact rfl; exact rfl; exact rfl; simp only [Env.mp, List.map_cons, List.map_nil, List.set_cons_zero, List.set_cons_succ, AV.kill, AV.kill1, AO.kill, AV.noRow, AV.noRow1, AO.via, reduceIte, Nat.reduceEqDiff, Nat.reduceLT, Env.up, Nat.zero_ne_one, Nat.one_ne_zero, Nat.reduceAdd, List.cons_append, List.nil_append]; rotate_left 1)
  | (apply w_sti; exact rfl; exact rfl; rotate_left 1; exact rfl; rotate_left 2)
  | (apply w_stst; iterate 5 exact rfl)
  | (apply w_stbv; iterate 6 exact rfl)
  | (apply w_stbo; exact rfl; exact rfl; exact rfl; exact rfl; exact rfl; exact True.intro)
  | ((apply AOps.splitB; exact rfl; exact rfl) <;> intro h)
  | apply AllOf.nil
  | (apply AllOf.cons; exact rfl)
  | (apply AAny.take; exact rfl; exact rfl; kernel_rfl; kernel_rfl)
  | (apply AAny.all; exact rfl)
  | (apply AAny.done; exact rfl)
  | (apply inI_of <;> omega)
  | omega
  | (simp <;> omega))
  refine AWp.loop (ι := Int × Int × Int) (fun s => ⟨22, [(0, .i s.1), (1, .i s.2.1), (5, .i s.2.2)]⟩) (fun _ => []) (fun s => (0 ≤ s.1 ∧ s.1 ≤ 55440) ∧ (0 ≤ s.2.1 ∧ s.2.1 ≤ 4611686018427387904) ∧ (0 ≤ s.2.2 ∧ s.2.2 ≤ 55440) ∧ s.2.2 * s.1 ^ s.2.1.toNat % 55441 = pwF z n) (fun s => s.2.1.toNat) (z, n, 1) ⟨hz, hn, by simp, by simp [pwF]⟩ ⟨lee rfl (by (repeat (first | exact le_nil | refine le_eq rfl rfl ?_ | refine le_eq rfl (congrArg AV.i (by omega)) ?_))), by (repeat (first | exact lo_nil | refine lo_dead ?_ | refine lo_eq rfl ?_)), rfl, rfl⟩ ?_
  rintro ⟨x, k, o⟩ ⟨h0, h1, h2, h3⟩
  simp only at h0 h1 h2 h3
  have b1 := mulB h2.1 h2.2 h0.1 h0.2
  have b2 := mulB h0.1 h0.2 h0.1 h0.2
  have b3 := modF (o * x)
  have b4 := modF (x * x)
  repeat' (first
  | (apply AOps.nil; try simp only [List.nil_append, List.cons_append, List.set_cons_zero, List.set_cons_succ, List.length_cons, List.length_nil, Nat.reduceAdd, AV.sh, AV.sh1, AV.sh0, AO.sh, List.map_cons, List.map_nil, Nat.zero_add, Nat.add_zero, setAll])
  | ((apply AOps.splitP; exact rfl; exact rfl) <;> intro h)
  | ((apply AOps.splitN; exact rfl; exact rfl) <;> intro h)
  | (apply w_move; exact rfl; exact rfl)
  | (apply w_assign; exact rfl; exact rfl)
  | apply AWp.seq
  | apply AWp.region
  | ((apply AWp.condP; exact rfl) <;> intro h)
  | ((apply AWp.condN; exact rfl) <;> intro h)
  | (apply AWp.condT; exact rfl)
  | (apply AWp.condF; exact rfl)
  | ((apply AWp.condB; exact rfl) <;> intro h)
  | apply AWp.block
  | apply AWp.ret
  | apply AWp.exit
  | apply AWp.skip
  | (apply AWp.regionQ; kernel_rfl; kernel_rfl)
  | (apply if_pos'; exact rfl)
  | (apply if_neg'; decide)
  | (apply w_skip; exact rfl)
  | (apply w_pickT; exact rfl; exact rfl; exact rfl)
  | (apply w_pickF; exact rfl; exact rfl; exact rfl)
  | (apply w_len; exact rfl; exact rfl; first | exact .ints _ | exact .intss _ | exact .sli rfl | exact .sls rfl | exact .slr rfl | exact .orow rfl | exact .nil)
  | ((first | apply w_lss | apply w_leq | apply w_gtr | apply w_geq | apply w_eql | apply w_neq | apply w_add | apply w_sub | apply w_mul | apply w_idx | apply w_ld | apply w_fld | apply w_fa | apply w_extv | apply w_min | apply w_max | apply w_slhi | apply w_sllo | apply w_bs2); iterate 3 exact rfl)
  | ((first | apply w_eqlb | apply w_neqb | apply w_idxs | apply w_lds | apply w_ext); iterate 3 exact rfl)
  | (apply w_rem; exact rfl; exact rfl; exact rfl; (focus (omega; done)); (focus (omega; done)))
  | (apply w_quo; exact rfl; exact rfl; exact rfl; (focus (omega; done)); (focus (omega; done)))
  | (apply w_remT; exact rfl; exact rfl; exact rfl)
  | (apply w_quoT; exact rfl; exact rfl; exact rfl)
  | ((first | apply w_not | apply w_neg | apply w_conv | apply w_build0 | apply w_bs1 | apply w_boxa); iterate 2 exact rfl)
  | (apply w_idxo; exact rfl; exact rfl; (first | exact .sli rfl | exact .sls rfl | exact .slr rfl); exact rfl)
  | ((first | apply w_idxr | apply w_ldr); iterate 4 exact rfl)
  | (apply w_ldo; iterate 4 exact rfl)
  | (apply w_ldls; iterate 4 exact rfl)
  | (apply w_ldrp; iterate 4 exact rfl)
  | (apply w_ldb; iterate 5 exact rfl)
  | (apply w_ldst; iterate 5 exact rfl)
  | ((first | apply w_sllh | apply w_stbi); iterate 4 exact rfl)
  | ((first | apply w_oslo | apply w_oshi | apply w_stbii); iterate 4 exact rfl)
  | (apply w_copy; exact rfl; (first | exact .own rfl rfl rfl | exact .osub); exact rfl; rotate_left 1; exact rfl; (first | exact .ints _ | exact .sli rfl | exact .orow rfl | exact .nil | exact .osub rfl (by simp; omega)))
  | (apply w_build1; exact rfl; exact rfl; (first | exact one_val rfl rfl | exact one_ints | exact one_intss | exact one_own rfl True.intro))
  | (apply w_build2; exact rfl; exact rfl; exact rfl; (first | exact one_val rfl rfl | exact one_ints | exact one_intss | exact one_own rfl True.intro); (first | exact one_val rfl rfl | exact one_ints | exact one_intss | exact one_own rfl True.intro))
  | (apply w_bs0; iterate 1 exact rfl)
  | (apply w_appn; exact rfl; exact rfl; (first | exact .ints _ | exact .sli rfl | exact .orow rfl | exact .nil | exact .osub rfl (by simp; omega)); exact rfl)
  | (apply w_app; exact rfl; exact rfl; exact rfl; exact rfl; (first | exact .ints _ | exact .sli rfl | exact .orow rfl | exact .nil | exact .osub rfl (by simp; omega)); rotate_left 1; simp only [Env.mp, List.map_cons, List.map_nil, List.set_cons_zero, List.set_cons_succ, AV.kill, AV.kill1, AO.kill, AV.noRow, AV.noRow1, AO.via, reduceIte, Nat.reduceEqDiff, Nat.reduceLT, Env.up, Nat.zero_ne_one, Nat.one_ne_zero, Nat.reduceAdd, List.cons_append, List.nil_append]; rotate_left 1)
  | (apply w_alst; iterate 2 exact rfl)
  | (apply w_alone; iterate 3 exact rfl)
  | (apply w_mki; exact rfl; exact rfl; rotate_left 3; exact rfl; rotate_left 1)
  | (apply w_mkr; exact rfl; exact rfl; rotate_left 3; exact rfl; rotate_left 1)
  | (apply w_strow; exact rfl; exact rfl; rotate_left 1; exact rfl; exact rfl; exact rfl; exact rfl; simp only [Env.mp, List.map_cons, List.map_nil, List.set_cons_zero, List.set_cons_succ, AV.kill, AV.kill1, AO.kill, AV.noRow, AV.noRow1, AO.via, reduceIte, Nat.reduceEqDiff, Nat.reduceLT, Env.up, Nat.zero_ne_one, Nat.one_ne_zero, Nat.reduceAdd, List.cons_append, List.nil_append]; rotate_left 1)
  | (apply w_sti; exact rfl; exact rfl; rotate_left 1; exact rfl; rotate_left 2)
  | (apply w_stst; iterate 5 exact rfl)
  | (apply w_stbv; iterate 6 exact rfl)
  | (apply w_stbo; exact rfl; exact rfl; exact rfl; exact rfl; exact rfl; exact True.intro)
  | ((apply AOps.splitB; exact rfl; exact rfl) <;> intro h)
  | apply AllOf.nil
  | (apply AllOf.cons; exact rfl)
  | (apply AAny.take; exact rfl; exact rfl; kernel_rfl; kernel_rfl)
  | (apply AAny.all; exact rfl)
  | (apply AAny.done; exact rfl)
  | (apply inI_of <;> omega)
  | omega
  | (simp <;> omega))
  · exact ⟨(x * x % 55441, k / 2, o * x % 55441), ⟨b4, by simp only; omega, b3, by simp only; rw [pw_odd (by omega) (by omega), h3]⟩, by simp only; omega, ⟨lee rfl (by (repeat (first | exact le_nil | refine le_eq rfl rfl ?_ | refine le_eq rfl (congrArg AV.i (by omega)) ?_))), by (repeat (first | exact lo_nil | refine lo_dead ?_ | refine lo_eq rfl ?_)), rfl, rfl⟩⟩
  · exact ⟨(x * x % 55441, k / 2, o), ⟨b4, by simp only; omega, h2, by simp only; rw [pw_even (by omega) (by omega), h3]⟩, by simp only; omega, ⟨lee rfl (by (repeat (first | exact le_nil | refine le_eq rfl rfl ?_ | refine le_eq rfl (congrArg AV.i (by omega)) ?_))), by (repeat (first | exact lo_nil | refine lo_dead ?_ | refine lo_eq rfl ?_)), rfl, rfl⟩⟩
  · have e : k = 0 := by omega
    subst e
    exact .int Try.results104 rfl (by rw [← h3]; simp; omega)

theorem l16Power_c (z n : Int) (hz : 0 ≤ z ∧ z ≤ 55440) (hn : 0 ≤ n ∧ n ≤ 4611686018427387904) : AFnV Try.prog 103 [.i z, .i n] (.int .i64 (pwF z n)) := by
  (refine AFnV.start Try.func103 Try.ntmps103 rfl (by kernel_rfl) fun hk => ?_; simp only [Env.start, enumF, List.length_cons, List.length_nil, Nat.reduceAdd, Nat.reduceSub, List.cons_append, List.nil_append])
  repeat' (first
  | (apply AOps.nil; try simp only [List.nil_append, List.cons_append, List.set_cons_zero, List.set_cons_succ, List.length_cons, List.length_nil, Nat.reduceAdd, AV.sh, AV.sh1, AV.sh0, AO.sh, List.map_cons, List.map_nil, Nat.zero_add, Nat.add_zero, setAll])
  | ((apply AOps.splitP; exact rfl; exact rfl) <;> intro h)
  | ((apply AOps.splitN; exact rfl; exact rfl) <;> intro h)
  | (apply w_move; exact rfl; exact rfl)
  | (apply w_assign; exact rfl; exact rfl)
  | apply AWp.seq
  | apply AWp.region
  | ((apply AWp.condP; exact rfl) <;> intro h)
  | ((apply AWp.condN; exact rfl) <;> intro h)
  | (apply AWp.condT; exact rfl)
  | (apply AWp.condF; exact rfl)
  | ((apply AWp.condB; exact rfl) <;> intro h)
  | apply AWp.block
  | apply AWp.ret
  | apply AWp.exit
  | apply AWp.skip
  | (apply AWp.regionQ; kernel_rfl; kernel_rfl)
  | (apply if_pos'; exact rfl)
  | (apply if_neg'; decide)
  | (apply w_skip; exact rfl)
  | (apply w_pickT; exact rfl; exact rfl; exact rfl)
  | (apply w_pickF; exact rfl; exact rfl; exact rfl)
  | (apply w_len; exact rfl; exact rfl; first | exact .ints _ | exact .intss _ | exact .sli rfl | exact .sls rfl | exact .slr rfl | exact .orow rfl | exact .nil)
  | ((first | apply w_lss | apply w_leq | apply w_gtr | apply w_geq | apply w_eql | apply w_neq | apply w_add | apply w_sub | apply w_mul | apply w_idx | apply w_ld | apply w_fld | apply w_fa | apply w_extv | apply w_min | apply w_max | apply w_slhi | apply w_sllo | apply w_bs2); iterate 3 exact rfl)
  | ((first | apply w_eqlb | apply w_neqb | apply w_idxs | apply w_lds | apply w_ext); iterate 3 exact rfl)
  | (apply w_rem; exact rfl; exact rfl; exact rfl; (focus (omega; done)); (focus (omega; done)))
  | (apply w_quo; exact rfl; exact rfl; exact rfl; (focus (omega; done)); (focus (omega; done)))
  | (apply w_remT; exact rfl; exact rfl; exact rfl)
  | (apply w_quoT; exact rfl; exact rfl; exact rfl)
  | ((first | apply w_not | apply w_neg | apply w_conv | apply w_build0 | apply w_bs1 | apply w_boxa); iterate 2 exact rfl)
  | (apply w_idxo; exact rfl; exact rfl; (first | exact .sli rfl | exact .sls rfl | exact .slr rfl); exact rfl)
  | ((first | apply w_idxr | apply w_ldr); iterate 4 exact rfl)
  | (apply w_ldo; iterate 4 exact rfl)
  | (apply w_ldls; iterate 4 exact rfl)
  | (apply w_ldrp; iterate 4 exact rfl)
  | (apply w_ldb; iterate 5 exact rfl)
  | (apply w_ldst; iterate 5 exact rfl)
  | ((first | apply w_sllh | apply w_stbi); iterate 4 exact rfl)
  | ((first | apply w_oslo | apply w_oshi | apply w_stbii); iterate 4 exact rfl)
  | (apply w_copy; exact rfl; (first | exact .own rfl rfl rfl | exact .osub); exact rfl; rotate_left 1; exact rfl; (first | exact .ints _ | exact .sli rfl | exact .orow rfl | exact .nil | exact .osub rfl (by simp; omega)))
  | (apply w_build1; exact rfl; exact rfl; (first | exact one_val rfl rfl | exact one_ints | exact one_intss | exact one_own rfl True.intro))
  | (apply w_build2; exact rfl; exact rfl; exact rfl; (first | exact one_val rfl rfl | exact one_ints | exact one_intss | exact one_own rfl True.intro); (first | exact one_val rfl rfl | exact one_ints | exact one_intss | exact one_own rfl True.intro))
  | (apply w_bs0; iterate 1 exact rfl)
  | (apply w_appn; exact rfl; exact rfl; (first | exact .ints _ | exact .sli rfl | exact .orow rfl | exact .nil | exact .osub rfl (by simp; omega)); exact rfl)
  | (apply w_app; exact rfl; exact rfl; exact rfl; exact rfl; (first | exact .ints _ | exact .sli rfl | exact .orow rfl | exact .nil | exact .osub rfl (by simp; omega)); rotate_left 1; simp only [Env.mp, List.map_cons, List.map_nil, List.set_cons_zero, List.set_cons_succ, AV.kill, AV.kill1, AO.kill, AV.noRow, AV.noRow1, AO.via, reduceIte, Nat.reduceEqDiff, Nat.reduceLT, Env.up, Nat.zero_ne_one, Nat.one_ne_zero, Nat.reduceAdd, List.cons_append, List.nil_append]; rotate_left 1)
  | (apply w_alst; iterate 2 exact rfl)
  | (apply w_alone; iterate 3 exact rfl)
  | (apply w_mki; exact rfl; exact rfl; rotate_left 3; exact rfl; rotate_left 1)
  | (apply w_mkr; exact rfl; exact rfl; rotate_left 3; exact rfl; rotate_left 1)
  | (apply w_strow; exact rfl; exact rfl; rotate_left 1; exact rfl; exact rfl; exact rfl; exact rfl; simp only [Env.mp, List.map_cons, List.map_nil, List.set_cons_zero, List.set_cons_succ, AV.kill, AV.kill1, AO.kill, AV.noRow, AV.noRow1, AO.via, reduceIte, Nat.reduceEqDiff, Nat.reduceLT, Env.up, Nat.zero_ne_one, Nat.one_ne_zero, Nat.reduceAdd, List.cons_append, List.nil_append]; rotate_left 1)
  | (apply w_sti; exact rfl; exact rfl; rotate_left 1; exact rfl; rotate_left 2)
  | (apply w_stst; iterate 5 exact rfl)
  | (apply w_stbv; iterate 6 exact rfl)
  | (apply w_stbo; exact rfl; exact rfl; exact rfl; exact rfl; exact rfl; exact True.intro)
  | ((apply AOps.splitB; exact rfl; exact rfl) <;> intro h)
  | apply AllOf.nil
  | (apply AllOf.cons; exact rfl)
  | (apply AAny.take; exact rfl; exact rfl; kernel_rfl; kernel_rfl)
  | (apply AAny.all; exact rfl)
  | (apply AAny.done; exact rfl)
  | (apply inI_of <;> omega)
  | omega
  | (simp <;> omega))
  refine AWp.loop (ι := Int × Int × Int) (fun s => ⟨22, [(0, .i s.1), (1, .i s.2.1), (5, .i s.2.2)]⟩) (fun _ => []) (fun s => (0 ≤ s.1 ∧ s.1 ≤ 55440) ∧ (0 ≤ s.2.1 ∧ s.2.1 ≤ 4611686018427387904) ∧ (0 ≤ s.2.2 ∧ s.2.2 ≤ 55440) ∧ s.2.2 * s.1 ^ s.2.1.toNat % 55441 = pwF z n) (fun s => s.2.1.toNat) (z, n, 1) ⟨hz, hn, by simp, by simp [pwF]⟩ ⟨lee rfl (by (repeat (first | exact le_nil | refine le_eq rfl rfl ?_ | refine le_eq rfl (congrArg AV.i (by omega)) ?_))), by (repeat (first | exact lo_nil | refine lo_dead ?_ | refine lo_eq rfl ?_)), rfl, rfl⟩ ?_
  rintro ⟨x, k, o⟩ ⟨h0, h1, h2, h3⟩
  simp only at h0 h1 h2 h3
  have b1 := mulB h2.1 h2.2 h0.1 h0.2
  have b2 := mulB h0.1 h0.2 h0.1 h0.2
  have b3 := modF (o * x)
  have b4 := modF (x * x)
  repeat' (first
  | (apply AOps.nil; try simp only [List.nil_append, List.cons_append, List.set_cons_zero, List.set_cons_succ, List.length_cons, List.length_nil, Nat.reduceAdd, AV.sh, AV.sh1, AV.sh0, AO.sh, List.map_cons, List.map_nil, Nat.zero_add, Nat.add_zero, setAll])
  | ((apply AOps.splitP; exact rfl; exact rfl) <;> intro h)
  | ((apply AOps.splitN; exact rfl; exact rfl) <;> intro h)
  | (apply w_move; exact rfl; exact rfl)
  | (apply w_assign; exact rfl; exact rfl)
  | apply AWp.seq
  | apply AWp.region
  | ((apply AWp.condP; exact rfl) <;> intro h)
  | ((apply AWp.condN; exact rfl) <;> intro h)
  | (apply AWp.condT; exact rfl)
  | (apply AWp.condF; exact rfl)
  | ((apply AWp.condB; exact rfl) <;> intro h)
  | apply AWp.block
  | apply AWp.ret
  | apply AWp.exit
  | apply AWp.skip
  | (apply AWp.regionQ; kernel_rfl; kernel_rfl)
  | (apply if_pos'; exact rfl)
  | (apply if_neg'; decide)
  | (apply w_skip; exact rfl)
  | (apply w_pickT; exact rfl; exact rfl; exact rfl)
  | (apply w_pickF; exact rfl; exact rfl; exact rfl)
  | (apply w_len; exact rfl; exact rfl; first | exact .ints _ | exact .intss _ | exact .sli rfl | exact .sls rfl | exact .slr rfl | exact .orow rfl | exact .nil)
  | ((first | apply w_lss | apply w_leq | apply w_gtr | apply w_geq | apply w_eql | apply w_neq | apply w_add | apply w_sub | apply w_mul | apply w_idx | apply w_ld | apply w_fld | apply w_fa | apply w_extv | apply w_min | apply w_max | apply w_slhi | apply w_sllo | apply w_bs2); iterate 3 exact rfl)
  | ((first | apply w_eqlb | apply w_neqb | apply w_idxs | apply w_lds | apply w_ext); iterate 3 exact rfl)
  | (apply w_rem; exact rfl; exact rfl; exact rfl; (focus (omega; done)); (focus (omega; done)))
  | (apply w_quo; exact rfl; exact rfl; exact rfl; (focus (omega; done)); (focus (omega; done)))
  | (apply w_remT; exact rfl; exact rfl; exact rfl)
  | (apply w_quoT; exact rfl; exact rfl; exact rfl)
  | ((first | apply w_not | apply w_neg | apply w_conv | apply w_build0 | apply w_bs1 | apply w_boxa); iterate 2 exact rfl)
  | (apply w_idxo; exact rfl; exact rfl; (first | exact .sli rfl | exact .sls rfl | exact .slr rfl); exact rfl)
  | ((first | apply w_idxr | apply w_ldr); iterate 4 exact rfl)
  | (apply w_ldo; iterate 4 exact rfl)
  | (apply w_ldls; iterate 4 exact rfl)
  | (apply w_ldrp; iterate 4 exact rfl)
  | (apply w_ldb; iterate 5 exact rfl)
  | (apply w_ldst; iterate 5 exact rfl)
  | ((first | apply w_sllh | apply w_stbi); iterate 4 exact rfl)
  | ((first | apply w_oslo | apply w_oshi | apply w_stbii); iterate 4 exact rfl)
  | (apply w_copy; exact rfl; (first | exact .own rfl rfl rfl | exact .osub); exact rfl; rotate_left 1; exact rfl; (first | exact .ints _ | exact .sli rfl | exact .orow rfl | exact .nil | exact .osub rfl (by simp; omega)))
  | (apply w_build1; exact rfl; exact rfl; (first | exact one_val rfl rfl | exact one_ints | exact one_intss | exact one_own rfl True.intro))
  | (apply w_build2; exact rfl; exact rfl; exact rfl; (first | exact one_val rfl rfl | exact one_ints | exact one_intss | exact one_own rfl True.intro); (first | exact one_val rfl rfl | exact one_ints | exact one_intss | exact one_own rfl True.intro))
  | (apply w_bs0; iterate 1 exact rfl)
  | (apply w_appn; exact rfl; exact rfl; (first | exact .ints _ | exact .sli rfl | exact .orow rfl | exact .nil | exact .osub rfl (by simp; omega)); exact rfl)
  | (apply w_app; exact rfl; exact rfl; exact rfl; exact rfl; (first | exact .ints _ | exact .sli rfl | exact .orow rfl | exact .nil | exact .osub rfl (by simp; omega)); rotate_left 1; simp only [Env.mp, List.map_cons, List.map_nil, List.set_cons_zero, List.set_cons_succ, AV.kill, AV.kill1, AO.kill, AV.noRow, AV.noRow1, AO.via, reduceIte, Nat.reduceEqDiff, Nat.reduceLT, Env.up, Nat.zero_ne_one, Nat.one_ne_zero, Nat.reduceAdd, List.cons_append, List.nil_append]; rotate_left 1)
  | (apply w_alst; iterate 2 exact rfl)
  | (apply w_alone; iterate 3 exact rfl)
  | (apply w_mki; exact rfl; exact rfl; rotate_left 3; exact rfl; rotate_left 1)
  | (apply w_mkr; exact rfl; exact rfl; rotate_left 3; exact rfl; rotate_left 1)
  | (apply w_strow; exact rfl; exact rfl; rotate_left 1; exact rfl; exact rfl; exact rfl; exact rfl; simp only [Env.mp, List.map_cons, List.map_nil, List.set_cons_zero, List.set_cons_succ, AV.kill, AV.kill1, AO.kill, AV.noRow, AV.noRow1, AO.via, reduceIte, Nat.reduceEqDiff, Nat.reduceLT, Env.up, Nat.zero_ne_one, Nat.one_ne_zero, Nat.reduceAdd, List.cons_append, List.nil_append]; rotate_left 1)
  | (apply w_sti; exact rfl; exact rfl; rotate_left 1; exact rfl; rotate_left 2)
  | (apply w_stst; iterate 5 exact rfl)
  | (apply w_stbv; iterate 6 exact rfl)
  | (apply w_stbo; exact rfl; exact rfl; exact rfl; exact rfl; exact rfl; exact True.intro)
  | ((apply AOps.splitB; exact rfl; exact rfl) <;> intro h)
  | apply AllOf.nil
  | (apply AllOf.cons; exact rfl)
  | (apply AAny.take; exact rfl; exact rfl; kernel_rfl; kernel_rfl)
  | (apply AAny.all; exact rfl)
  | (apply AAny.done; exact rfl)
  | (apply inI_of <;> omega)
  | omega
  | (simp <;> omega))
  · exact ⟨(x * x % 55441, k / 2, o * x % 55441), ⟨b4, by simp only; omega, b3, by simp only; rw [pw_odd (by omega) (by omega), h3]⟩, by simp only; omega, ⟨lee rfl (by (repeat (first | exact le_nil | refine le_eq rfl rfl ?_ | refine le_eq rfl (congrArg AV.i (by omega)) ?_))), by (repeat (first | exact lo_nil | refine lo_dead ?_ | refine lo_eq rfl ?_)), rfl, rfl⟩⟩
  · exact ⟨(x * x % 55441, k / 2, o), ⟨b4, by simp only; omega, h2, by simp only; rw [pw_even (by omega) (by omega), h3]⟩, by simp only; omega, ⟨lee rfl (by (repeat (first | exact le_nil | refine le_eq rfl rfl ?_ | refine le_eq rfl (congrArg AV.i (by omega)) ?_))), by (repeat (first | exact lo_nil | refine lo_dead ?_ | refine lo_eq rfl ?_)), rfl, rfl⟩⟩
  · have e : k = 0 := by omega
    subst e
    exact .int Try.results103 rfl (by rw [← h3]; simp; omega)

theorem pwF_in (z n : Int) : 0 ≤ pwF z n ∧ pwF z n ≤ 55440 := modF _
theorem pwF_zero (z : Int) : pwF z 0 = 1 := by simp [pwF]
theorem pwF_zero' (z : Int) : (1 : Int) = pwF z ((0 : Nat) : Int) := by simp [pwF]
theorem pwF_succ (z : Int) (n : Nat) : pwF z n * z % 55441 = pwF z (n + 1 : Nat) := by
  simp only [pwF, Int.toNat_natCast]
  rw [mulmod, Int.pow_succ]
end Go.Proofs.Ytifkgmbghcmdeaa
