/-
  Parts of the proof, one behind the other: contracts of functions and plain laws. No condition.
-/
import Derived.Test.YtdkociacaagcoaaPt4Characterist
/-
  Zeta lists: Milnor numbers and Lefschetz numbers. No condition.
-/
namespace Go.Proofs.Ytdkociacaagcoaa
open Go Go.RowKit
attribute [local irreducible] AWp AOps ResIs Ret1 QOp LOp COp AFnV AFn Imms LeE LeO
set_option maxHeartbeats 1000000
set_option linter.unusedSimpArgs false
set_option linter.unusedVariables false

theorem mulZ {a b : Int} (h0 : 1 ≤ a) (h1 : a ≤ 1000000) (h2 : -1000 ≤ b) (h3 : b ≤ 1000) : -1000000000 ≤ a * b ∧ a * b ≤ 1000000000 := by
  constructor
  · have := Int.mul_le_mul_of_nonneg_left h2 (show 0 ≤ a by omega)
    omega
  · have := Int.mul_le_mul_of_nonneg_left h3 (show 0 ≤ a by omega)
    omega

/-- The sum of the products of the first k rows. -/
def zsum (xss : List (List Int)) : Nat → Int
  | 0 => 0
  | k + 1 => zsum xss k + geti (gets xss k) 0 * geti (gets xss k) 1

theorem isZ_of {xss : List (List Int)} (h : isZ xss = true) : xss.length ≤ 40 ∧ ∀ j, j < xss.length → ZR xss j := of_decide_eq_true (p := IsZ xss) h
theorem zprod {xss : List (List Int)} (h : isZ xss = true) (k : Nat) : -1000000000 ≤ geti (gets xss k) 0 * geti (gets xss k) 1 ∧ geti (gets xss k) 0 * geti (gets xss k) 1 ≤ 1000000000 := by
  by_cases hk : k < xss.length
  · have := (isZ_of h).2 k hk
    unfold ZR at this
    exact mulZ this.2.1.1 this.2.1.2 this.2.2.1.1 this.2.2.1.2
  · simp [gets, geti, List.getElem?_eq_none (show xss.length ≤ k by omega)]
theorem zsum_in {xss : List (List Int)} (h : isZ xss = true) : ∀ k : Nat, -1000000000 * k ≤ zsum xss k ∧ zsum xss k ≤ 1000000000 * k
  | 0 => by simp [zsum]
  | k + 1 => by
    have ih := zsum_in h k
    have := zprod h k
    simp only [zsum]
    omega

theorem l14Milnor_c (xss : List (List Int)) (h : isZ xss = true) : AFnV Try.prog 56 [.intss xss] (.int .i64 (1 - zsum xss xss.length)) := by
  obtain ⟨z1, z2⟩ := isZ_of h
  (refine AFnV.start Try.func56 Try.ntmps56 rfl (by kernel_rfl) fun hk => ?_; simp only [Env.start, enumF, List.length_cons, List.length_nil, Nat.reduceAdd, Nat.reduceSub, List.cons_append, List.nil_append])
  repeat' (first | (apply AOps.nil; try simp only [List.nil_append, List.cons_append, List.set_cons_zero, List.set_cons_succ, List.length_cons, List.length_nil, Nat.reduceAdd, AV.sh, AV.sh1, AV.sh0, AO.sh, List.map_cons, List.map_nil, Nat.zero_add, Nat.add_zero, setAll]) | (apply w_assign; exact rfl; exact rfl) | apply AWp.seq | apply AWp.region | apply AWp.block)
  refine AWp.loop (ι := Nat) (fun i => ⟨27, [(0, .intss xss), (3, .i (1 - zsum xss i)), (4, .i i)]⟩) (fun _ => []) (fun i => i ≤ xss.length) (fun i => xss.length - i) 0 (by omega) ⟨lee rfl (by (repeat (first | exact le_nil | refine le_eq rfl rfl ?_))), by (repeat (exact lo_nil)), rfl, rfl⟩ ?_
  rintro i h0
  have s1 := zsum_in h i
  have s2 := zprod h i
  have s3 : i < xss.length → (gets xss i).length = 2 := fun hi => (z2 i hi).1
  by_cases hi : i < xss.length
  · have s4 := s3 hi
    repeat' (first | (apply AOps.nil; try simp only [List.nil_append, List.cons_append, List.set_cons_zero, List.set_cons_succ, List.length_cons, List.length_nil, Nat.reduceAdd, AV.sh, AV.sh1, AV.sh0, AO.sh, List.map_cons, List.map_nil, Nat.zero_add, Nat.add_zero, setAll]) | (apply w_move; exact rfl; exact rfl) | (apply w_assign; exact rfl; exact rfl) | apply AWp.seq | apply AWp.region | ((apply AWp.condP; exact rfl) <;> intro h) | apply AWp.block | apply AWp.ret | apply AWp.exit | apply AWp.skip | (apply AWp.regionQ; kernel_rfl; kernel_rfl) | (apply w_len; exact rfl; exact rfl; first | exact .ints _ | exact .intss _ | exact .sli rfl | exact .sls rfl | exact .slr rfl | exact .orow rfl | exact .nil) | ((first | apply w_lss | apply w_add | apply w_sub | apply w_mul | apply w_idx | apply w_ld); iterate 3 exact rfl) | ((first | apply w_idxs | apply w_lds); iterate 3 exact rfl) | (apply inI_of <;> omega) | omega)
    have e1 : 1 - zsum xss i - geti (gets xss i) 0 * geti (gets xss i) 1 = 1 - zsum xss (i + 1) := by simp only [zsum]; omega
    exact ⟨i + 1, by omega, by omega, ⟨lee rfl (by (repeat (first | exact le_nil | refine le_eq rfl rfl ?_ | refine le_eq rfl (congrArg AV.i (by omega)) ?_))), by (repeat (exact lo_nil)), rfl, rfl⟩⟩
  · repeat' (first | (apply AOps.nil; try simp only [List.nil_append, List.cons_append, List.set_cons_zero, List.set_cons_succ, List.length_cons, List.length_nil, Nat.reduceAdd, AV.sh, AV.sh1, AV.sh0, AO.sh, List.map_cons, List.map_nil, Nat.zero_add, Nat.add_zero, setAll]) | (apply w_move; exact rfl; exact rfl) | (apply w_assign; exact rfl; exact rfl) | apply AWp.seq | apply AWp.region | ((apply AWp.condP; exact rfl) <;> intro h) | apply AWp.block | apply AWp.ret | apply AWp.exit | apply AWp.skip | (apply AWp.regionQ; kernel_rfl; kernel_rfl) | (apply w_len; exact rfl; exact rfl; first | exact .ints _ | exact .intss _ | exact .sli rfl | exact .sls rfl | exact .slr rfl | exact .orow rfl | exact .nil) | ((first | apply w_lss | apply w_add | apply w_sub | apply w_mul | apply w_idx | apply w_ld); iterate 3 exact rfl) | ((first | apply w_idxs | apply w_lds); iterate 3 exact rfl) | (apply inI_of <;> omega) | omega)
    have e : i = xss.length := by omega
    subst e
    exact .int Try.results56 rfl rfl

theorem milnorOfZeta_c (xss : List (List Int)) (h : isZ xss = true) : AFnV Try.prog 41 [.intss xss] (.int .i64 (1 - zsum xss xss.length)) := by
  obtain ⟨z1, z2⟩ := isZ_of h
  (refine AFnV.start Try.func41 Try.ntmps41 rfl (by kernel_rfl) fun hk => ?_; simp only [Env.start, enumF, List.length_cons, List.length_nil, Nat.reduceAdd, Nat.reduceSub, List.cons_append, List.nil_append])
  repeat' (first | (apply AOps.nil; try simp only [List.nil_append, List.cons_append, List.set_cons_zero, List.set_cons_succ, List.length_cons, List.length_nil, Nat.reduceAdd, AV.sh, AV.sh1, AV.sh0, AO.sh, List.map_cons, List.map_nil, Nat.zero_add, Nat.add_zero, setAll]) | (apply w_move; exact rfl; exact rfl) | (apply w_assign; exact rfl; exact rfl) | apply AWp.seq | apply AWp.region | apply AWp.block | (apply w_len; exact rfl; exact rfl; first | exact .ints _ | exact .intss _ | exact .sli rfl | exact .sls rfl | exact .slr rfl | exact .orow rfl | exact .nil))
  refine AWp.loop (ι := Nat) (fun i => ⟨23, [(3, .i (1 - zsum xss i)), (6, .intss xss), (7, .i xss.length), (8, .i i)]⟩) (fun _ => []) (fun i => i ≤ xss.length) (fun i => xss.length - i) 0 (by omega) ⟨lee rfl (by (repeat (first | exact le_nil | refine le_eq rfl rfl ?_))), by (repeat (exact lo_nil)), rfl, rfl⟩ ?_
  rintro i h0
  have s1 := zsum_in h i
  have s2 := zprod h i
  have s3 : i < xss.length → (gets xss i).length = 2 := fun hi => (z2 i hi).1
  by_cases hi : i < xss.length
  · have s4 := s3 hi
    repeat' (first | (apply AOps.nil; try simp only [List.nil_append, List.cons_append, List.set_cons_zero, List.set_cons_succ, List.length_cons, List.length_nil, Nat.reduceAdd, AV.sh, AV.sh1, AV.sh0, AO.sh, List.map_cons, List.map_nil, Nat.zero_add, Nat.add_zero, setAll]) | (apply w_move; exact rfl; exact rfl) | (apply w_assign; exact rfl; exact rfl) | apply AWp.seq | apply AWp.region | ((apply AWp.condP; exact rfl) <;> intro h) | apply AWp.block | apply AWp.ret | apply AWp.exit | apply AWp.skip | (apply AWp.regionQ; kernel_rfl; kernel_rfl) | ((first | apply w_lss | apply w_add | apply w_sub | apply w_mul | apply w_idx | apply w_ld); iterate 3 exact rfl) | ((first | apply w_idxs | apply w_lds); iterate 3 exact rfl) | (apply inI_of <;> omega) | omega)
    have e1 : 1 - zsum xss i - geti (gets xss i) 0 * geti (gets xss i) 1 = 1 - zsum xss (i + 1) := by simp only [zsum]; omega
    exact ⟨i + 1, by omega, by omega, ⟨lee rfl (by (repeat (first | exact le_nil | refine le_eq rfl rfl ?_ | refine le_eq rfl (congrArg AV.i (by omega)) ?_))), by (repeat (exact lo_nil)), rfl, rfl⟩⟩
  · repeat' (first | (apply AOps.nil; try simp only [List.nil_append, List.cons_append, List.set_cons_zero, List.set_cons_succ, List.length_cons, List.length_nil, Nat.reduceAdd, AV.sh, AV.sh1, AV.sh0, AO.sh, List.map_cons, List.map_nil, Nat.zero_add, Nat.add_zero, setAll]) | (apply w_move; exact rfl; exact rfl) | (apply w_assign; exact rfl; exact rfl) | apply AWp.seq | apply AWp.region | ((apply AWp.condP; exact rfl) <;> intro h) | apply AWp.block | apply AWp.ret | apply AWp.exit | apply AWp.skip | (apply AWp.regionQ; kernel_rfl; kernel_rfl) | ((first | apply w_lss | apply w_add | apply w_sub | apply w_mul | apply w_idx | apply w_ld); iterate 3 exact rfl) | ((first | apply w_idxs | apply w_lds); iterate 3 exact rfl) | (apply inI_of <;> omega) | omega)
    have e : i = xss.length := by omega
    subst e
    exact .int Try.results41 rfl rfl

end Go.Proofs.Ytdkociacaagcoaa
/-
  Characteristic polynomials of zeta lists, in the program and in the reference. No condition.
-/
namespace Go.Proofs.Ytdkociacaagcoaa
open Go Go.RowKit
attribute [local irreducible] AWp AOps ResIs Ret1 QOp LOp COp AFnV AFn Imms LeE LeO
set_option maxHeartbeats 1000000
set_option linter.unusedSimpArgs false
set_option linter.unusedVariables false

def PlOk (l : List Int) : Prop := (l.length ≤ 2001 ∧ (l.length = 0 ∨ geti l ((l.length : Int) - 1) ≠ 0)) ∧ ∀ k : Nat, k < l.length → -1000000000000 ≤ geti l (k : Nat) ∧ geti l (k : Nat) ≤ 1000000000000
noncomputable instance (l : List Int) : Decidable (PlOk l) := Classical.propDecidable _
noncomputable def isPl (l : List Int) : Bool := decide (PlOk l)
theorem isCoefficient_c (x : Int) : AFnV Try.prog 62 [.i x] (.bool (decide (-1000000000000 ≤ x ∧ x ≤ 1000000000000))) := by
  (refine AFnV.start Try.func62 Try.ntmps62 rfl (by kernel_rfl) fun hk => ?_; simp only [Env.start, enumF, List.length_cons, List.length_nil, Nat.reduceAdd, Nat.reduceSub, List.cons_append, List.nil_append])
  repeat' (first | (apply AOps.nil; try simp only [List.nil_append, List.cons_append, List.set_cons_zero, List.set_cons_succ, List.length_cons, List.length_nil, Nat.reduceAdd, AV.sh, AV.sh1, AV.sh0, AO.sh, List.map_cons, List.map_nil, Nat.zero_add, Nat.add_zero, setAll]) | (apply w_move; exact rfl; exact rfl) | (apply w_assign; exact rfl; exact rfl) | apply AWp.seq | apply AWp.region | apply AWp.ret | (apply w_call (inRange_c _ _ _); exact rfl; exact rfl; focus ((repeat (first | exact im_nil | refine im_cons rfl (.val _) ?_)); done)))
  all_goals exact .bool Try.results62 rfl rfl
theorem IsPolynomial_c (l : List Int) : AFnV Try.prog 43 [.ints l] (.bool (isPl l)) := by
  (refine AFnV.start Try.func43 Try.ntmps43 rfl (by kernel_rfl) fun hk0 => ?_; simp only [Env.start, enumF, List.length_cons, List.length_nil, Nat.reduceAdd, Nat.reduceSub, List.cons_append, List.nil_append])
  obtain ⟨hk, hl⟩ : ArgOk (.ints l) := hk0 _ (by simp)
  by_cases hA : l.length ≤ 2001 ∧ (l.length = 0 ∨ geti l ((l.length : Int) - 1) ≠ 0)
  · have hA1 := hA.1
    have hA2 : (l.length : Int) > 0 → geti l ((l.length : Int) - 1) ≠ 0 := fun h => by rcases hA.2 with k | k; omega; exact k
    by_cases h00 : l.length = 0
    · repeat' (first | (apply AOps.nil; try simp only [List.nil_append, List.cons_append, List.set_cons_zero, List.set_cons_succ, List.length_cons, List.length_nil, Nat.reduceAdd, AV.sh, AV.sh1, AV.sh0, AO.sh, List.map_cons, List.map_nil, Nat.zero_add, Nat.add_zero, setAll]) | ((apply AOps.splitP; exact rfl; exact rfl) <;> intro h) | (apply w_move; exact rfl; exact rfl) | (apply w_assign; exact rfl; exact rfl) | apply AWp.seq | apply AWp.region | (apply AWp.condT; exact rfl) | (apply AWp.condF; exact rfl) | apply AWp.block | apply AWp.ret | apply AWp.skip | (apply w_skip; exact rfl) | (apply w_pickT; exact rfl; exact rfl; exact rfl) | (apply w_pickF; exact rfl; exact rfl; exact rfl) | (apply w_len; exact rfl; exact rfl; first | exact .ints _ | exact .intss _ | exact .sli rfl | exact .sls rfl | exact .slr rfl | exact .orow rfl | exact .nil) | omega | ((apply w_gtr); iterate 3 exact rfl))
      refine AWp.loop (ι := Nat) (fun i => ⟨32, [(22, .ints l), (23, .i l.length), (24, .i i)]⟩) (fun _ => []) (fun i => i = 0) (fun i => 0) 0 rfl ⟨lee rfl (by (repeat (first | exact le_nil | refine le_eq rfl rfl ?_))), by (repeat (exact lo_nil)), rfl, rfl⟩ ?_
      rintro i i0
      subst i0
      repeat' (first | (apply AOps.nil; try simp only [List.nil_append, List.cons_append, List.set_cons_zero, List.set_cons_succ, List.length_cons, List.length_nil, Nat.reduceAdd, AV.sh, AV.sh1, AV.sh0, AO.sh, List.map_cons, List.map_nil, Nat.zero_add, Nat.add_zero, setAll]) | (apply w_assign; exact rfl; exact rfl) | apply AWp.seq | apply AWp.region | ((apply AWp.condP; exact rfl) <;> intro h) | apply AWp.block | apply AWp.ret | apply AWp.exit | apply AWp.skip | omega | ((apply w_lss); iterate 3 exact rfl))
      exact .bool Try.results43 rfl (decide_eq_true (p := PlOk l) ⟨hA, fun k hk => by omega⟩).symm
    · have hA3 := hA2 (by omega)
      repeat' (first | (apply AOps.nil; try simp only [List.nil_append, List.cons_append, List.set_cons_zero, List.set_cons_succ, List.length_cons, List.length_nil, Nat.reduceAdd, AV.sh, AV.sh1, AV.sh0, AO.sh, List.map_cons, List.map_nil, Nat.zero_add, Nat.add_zero, setAll]) | ((apply AOps.splitP; exact rfl; exact rfl) <;> intro h) | (apply w_move; exact rfl; exact rfl) | (apply w_assign; exact rfl; exact rfl) | apply AWp.seq | apply AWp.region | ((apply AWp.condP; exact rfl) <;> intro h) | (apply AWp.condT; exact rfl) | (apply AWp.condF; exact rfl) | apply AWp.block | apply AWp.ret | apply AWp.skip | (apply w_skip; exact rfl) | (apply w_pickT; exact rfl; exact rfl; exact rfl) | (apply w_pickF; exact rfl; exact rfl; exact rfl) | (apply w_len; exact rfl; exact rfl; first | exact .ints _ | exact .intss _ | exact .sli rfl | exact .sls rfl | exact .slr rfl | exact .orow rfl | exact .nil) | omega | ((first | apply w_gtr | apply w_eql | apply w_sub | apply w_idx | apply w_ld); iterate 3 exact rfl) | (apply inI_of <;> omega))
      refine AWp.loop (ι := Nat) (fun i => ⟨32, [(22, .ints l), (23, .i l.length), (24, .i i)]⟩) (fun _ => []) (fun i => i ≤ l.length ∧ ∀ k : Nat, k < i → -1000000000000 ≤ geti l (k : Nat) ∧ geti l (k : Nat) ≤ 1000000000000) (fun i => l.length - i) 0 ⟨by omega, fun k hk => by omega⟩ ⟨lee rfl (by (repeat (first | exact le_nil | refine le_eq rfl rfl ?_))), by (repeat (exact lo_nil)), rfl, rfl⟩ ?_
      rintro i ⟨i0, i1⟩
      by_cases hi : i < l.length
      · have hc := isCoefficient_c (geti l (i : Nat))
        by_cases hb : -1000000000000 ≤ geti l (i : Nat) ∧ geti l (i : Nat) ≤ 1000000000000
        · rw [decide_eq_true hb] at hc
          repeat' (first | (apply AOps.nil; try simp only [List.nil_append, List.cons_append, List.set_cons_zero, List.set_cons_succ, List.length_cons, List.length_nil, Nat.reduceAdd, AV.sh, AV.sh1, AV.sh0, AO.sh, List.map_cons, List.map_nil, Nat.zero_add, Nat.add_zero, setAll]) | (apply w_move; exact rfl; exact rfl) | (apply w_assign; exact rfl; exact rfl) | apply AWp.seq | apply AWp.region | ((apply AWp.condP; exact rfl) <;> intro h) | (apply AWp.condF; exact rfl) | apply AWp.block | apply AWp.ret | apply AWp.exit | apply AWp.skip | (apply w_call (hc); exact rfl; exact rfl; focus ((repeat (first | exact im_nil | refine im_cons rfl (.val _) ?_)); done)) | omega | ((first | apply w_lss | apply w_add | apply w_idx | apply w_ld); iterate 3 exact rfl) | ((apply w_not); iterate 2 exact rfl) | (apply inI_of <;> omega))
          refine ⟨i + 1, ⟨hi, fun k hk => ?_⟩, by omega, ⟨lee rfl (by (repeat (first | exact le_nil | refine le_eq rfl rfl ?_))), by (repeat (exact lo_nil)), rfl, rfl⟩⟩
          by_cases e : k = i
          · subst e; exact hb
          · exact i1 k (by omega)
        · rw [decide_eq_false hb] at hc
          repeat' (first | (apply AOps.nil; try simp only [List.nil_append, List.cons_append, List.set_cons_zero, List.set_cons_succ, List.length_cons, List.length_nil, Nat.reduceAdd, AV.sh, AV.sh1, AV.sh0, AO.sh, List.map_cons, List.map_nil, Nat.zero_add, Nat.add_zero, setAll]) | (apply w_move; exact rfl; exact rfl) | (apply w_assign; exact rfl; exact rfl) | apply AWp.seq | apply AWp.region | ((apply AWp.condP; exact rfl) <;> intro h) | (apply AWp.condT; exact rfl) | apply AWp.block | apply AWp.ret | apply AWp.exit | apply AWp.skip | (apply w_call (hc); exact rfl; exact rfl; focus ((repeat (first | exact im_nil | refine im_cons rfl (.val _) ?_)); done)) | omega | ((first | apply w_lss | apply w_idx | apply w_ld); iterate 3 exact rfl) | ((apply w_not); iterate 2 exact rfl))
          exact .bool Try.results43 rfl (decide_eq_false (p := PlOk l) fun h => hb (h.2 i hi)).symm
      · have e : i = l.length := by omega
        subst e
        repeat' (first | (apply AOps.nil; try simp only [List.nil_append, List.cons_append, List.set_cons_zero, List.set_cons_succ, List.length_cons, List.length_nil, Nat.reduceAdd, AV.sh, AV.sh1, AV.sh0, AO.sh, List.map_cons, List.map_nil, Nat.zero_add, Nat.add_zero, setAll]) | (apply w_assign; exact rfl; exact rfl) | apply AWp.seq | apply AWp.region | ((apply AWp.condP; exact rfl) <;> intro h) | apply AWp.block | apply AWp.ret | apply AWp.exit | apply AWp.skip | omega | ((apply w_lss); iterate 3 exact rfl))
        exact .bool Try.results43 rfl (decide_eq_true (p := PlOk l) ⟨hA, i1⟩).symm
  · have hno : false = isPl l := (decide_eq_false (p := PlOk l) fun h => hA h.1).symm
    have hA2 : l.length ≤ 2001 → (l.length : Int) > 0 ∧ geti l ((l.length : Int) - 1) = 0 := fun h => by
      constructor
      · apply Classical.byContradiction; intro k; exact hA ⟨h, .inl (by omega)⟩
      · apply Classical.byContradiction; intro k; exact hA ⟨h, .inr k⟩
    by_cases h1 : l.length ≤ 2001
    · obtain ⟨b1, b2⟩ := hA2 h1
      repeat' (first | (apply AOps.nil; try simp only [List.nil_append, List.cons_append, List.set_cons_zero, List.set_cons_succ, List.length_cons, List.length_nil, Nat.reduceAdd, AV.sh, AV.sh1, AV.sh0, AO.sh, List.map_cons, List.map_nil, Nat.zero_add, Nat.add_zero, setAll]) | ((apply AOps.splitP; exact rfl; exact rfl) <;> intro h) | (apply w_move; exact rfl; exact rfl) | (apply w_assign; exact rfl; exact rfl) | apply AWp.seq | apply AWp.region | ((apply AWp.condP; exact rfl) <;> intro h) | (apply AWp.condT; exact rfl) | (apply AWp.condF; exact rfl) | apply AWp.block | apply AWp.ret | apply AWp.skip | (apply w_skip; exact rfl) | (apply w_pickT; exact rfl; exact rfl; exact rfl) | (apply w_pickF; exact rfl; exact rfl; exact rfl) | (apply w_len; exact rfl; exact rfl; first | exact .ints _ | exact .intss _ | exact .sli rfl | exact .sls rfl | exact .slr rfl | exact .orow rfl | exact .nil) | omega | ((first | apply w_gtr | apply w_eql | apply w_sub | apply w_idx | apply w_ld); iterate 3 exact rfl) | (apply inI_of <;> omega))
      all_goals exact .bool Try.results43 rfl hno
    · repeat' (first | (apply AOps.nil; try simp only [List.nil_append, List.cons_append, List.set_cons_zero, List.set_cons_succ, List.length_cons, List.length_nil, Nat.reduceAdd, AV.sh, AV.sh1, AV.sh0, AO.sh, List.map_cons, List.map_nil, Nat.zero_add, Nat.add_zero, setAll]) | ((apply AOps.splitP; exact rfl; exact rfl) <;> intro h) | (apply w_move; exact rfl; exact rfl) | (apply w_assign; exact rfl; exact rfl) | apply AWp.seq | apply AWp.region | (apply AWp.condT; exact rfl) | apply AWp.ret | (apply w_skip; exact rfl) | (apply w_pickT; exact rfl; exact rfl; exact rfl) | (apply w_len; exact rfl; exact rfl; first | exact .ints _ | exact .intss _ | exact .sli rfl | exact .sls rfl | exact .slr rfl | exact .orow rfl | exact .nil) | omega | ((apply w_gtr); iterate 3 exact rfl))
      all_goals exact .bool Try.results43 rfl hno
theorem l02Is_c (l : List Int) : AFnV Try.prog 57 [.ints l] (.bool (isPl l)) := by
  (refine AFnV.start Try.func57 Try.ntmps57 rfl (by kernel_rfl) fun hk0 => ?_; simp only [Env.start, enumF, List.length_cons, List.length_nil, Nat.reduceAdd, Nat.reduceSub, List.cons_append, List.nil_append])
  obtain ⟨hk, hl⟩ : ArgOk (.ints l) := hk0 _ (by simp)
  repeat' (first | (apply AOps.nil; try simp only [List.nil_append, List.cons_append, List.set_cons_zero, List.set_cons_succ, List.length_cons, List.length_nil, Nat.reduceAdd, AV.sh, AV.sh1, AV.sh0, AO.sh, List.map_cons, List.map_nil, Nat.zero_add, Nat.add_zero, setAll]) | (apply w_assign; exact rfl; exact rfl) | apply AWp.seq | apply AWp.region | apply AWp.block)
  refine AWp.loop (ι := Nat) (fun i => ⟨33, [(0, .ints l), (3, .i i)]⟩) (fun _ => []) (fun i => i ≤ l.length ∧ ∀ k : Nat, k < i → -1000000000000 ≤ geti l (k : Nat) ∧ geti l (k : Nat) ≤ 1000000000000) (fun i => l.length - i) 0 ⟨by omega, fun k hk => by omega⟩ ⟨lee rfl (by (repeat (first | exact le_nil | refine le_eq rfl rfl ?_))), by (repeat (exact lo_nil)), rfl, rfl⟩ ?_
  rintro i ⟨i0, i1⟩
  by_cases hi : i < l.length
  · have hc := l01In_c (geti l (i : Nat)) (-1000000000000) 1000000000000
    by_cases hb : -1000000000000 ≤ geti l (i : Nat) ∧ geti l (i : Nat) ≤ 1000000000000
    · rw [decide_eq_true hb] at hc
      repeat' (first | (apply AOps.nil; try simp only [List.nil_append, List.cons_append, List.set_cons_zero, List.set_cons_succ, List.length_cons, List.length_nil, Nat.reduceAdd, AV.sh, AV.sh1, AV.sh0, AO.sh, List.map_cons, List.map_nil, Nat.zero_add, Nat.add_zero, setAll]) | (apply w_move; exact rfl; exact rfl) | (apply w_assign; exact rfl; exact rfl) | apply AWp.seq | apply AWp.region | ((apply AWp.condP; exact rfl) <;> intro h) | (apply AWp.condF; exact rfl) | apply AWp.block | apply AWp.exit | apply AWp.skip | (apply w_len; exact rfl; exact rfl; first | exact .ints _ | exact .intss _ | exact .sli rfl | exact .sls rfl | exact .slr rfl | exact .orow rfl | exact .nil) | (apply w_call (hc); exact rfl; exact rfl; focus ((repeat (first | exact im_nil | refine im_cons rfl (.val _) ?_)); done)) | omega | ((first | apply w_lss | apply w_add | apply w_idx | apply w_ld); iterate 3 exact rfl) | ((apply w_not); iterate 2 exact rfl) | (apply inI_of <;> omega))
      refine ⟨i + 1, ⟨hi, fun k hk => ?_⟩, by omega, ⟨lee rfl (by (repeat (first | exact le_nil | refine le_eq rfl rfl ?_))), by (repeat (exact lo_nil)), rfl, rfl⟩⟩
      by_cases e : k = i
      · subst e; exact hb
      · exact i1 k (by omega)
    · rw [decide_eq_false hb] at hc
      repeat' (first | (apply AOps.nil; try simp only [List.nil_append, List.cons_append, List.set_cons_zero, List.set_cons_succ, List.length_cons, List.length_nil, Nat.reduceAdd, AV.sh, AV.sh1, AV.sh0, AO.sh, List.map_cons, List.map_nil, Nat.zero_add, Nat.add_zero, setAll]) | (apply w_move; exact rfl; exact rfl) | (apply w_assign; exact rfl; exact rfl) | apply AWp.seq | apply AWp.region | ((apply AWp.condP; exact rfl) <;> intro h) | (apply AWp.condT; exact rfl) | apply AWp.block | apply AWp.ret | apply AWp.exit | apply AWp.skip | (apply w_len; exact rfl; exact rfl; first | exact .ints _ | exact .intss _ | exact .sli rfl | exact .sls rfl | exact .slr rfl | exact .orow rfl | exact .nil) | (apply w_call (hc); exact rfl; exact rfl; focus ((repeat (first | exact im_nil | refine im_cons rfl (.val _) ?_)); done)) | omega | ((first | apply w_lss | apply w_idx | apply w_ld); iterate 3 exact rfl) | ((apply w_not); iterate 2 exact rfl))
      exact .bool Try.results57 rfl (decide_eq_false (p := PlOk l) fun h => hb (h.2 i hi)).symm
  · have e : i = l.length := by omega
    subst e
    by_cases hA : l.length ≤ 2001 ∧ (l.length = 0 ∨ geti l ((l.length : Int) - 1) ≠ 0)
    · have hyes : true = isPl l := (decide_eq_true (p := PlOk l) ⟨hA, i1⟩).symm
      have hA1 := hA.1
      by_cases h00 : l.length = 0
      · repeat' (first | (apply AOps.nil; try simp only [List.nil_append, List.cons_append, List.set_cons_zero, List.set_cons_succ, List.length_cons, List.length_nil, Nat.reduceAdd, AV.sh, AV.sh1, AV.sh0, AO.sh, List.map_cons, List.map_nil, Nat.zero_add, Nat.add_zero, setAll]) | ((apply AOps.splitP; exact rfl; exact rfl) <;> intro h) | (apply w_move; exact rfl; exact rfl) | (apply w_assign; exact rfl; exact rfl) | apply AWp.seq | apply AWp.region | ((apply AWp.condP; exact rfl) <;> intro h) | apply AWp.block | apply AWp.ret | apply AWp.exit | apply AWp.skip | (apply w_skip; exact rfl) | (apply w_pickT; exact rfl; exact rfl; exact rfl) | (apply w_pickF; exact rfl; exact rfl; exact rfl) | (apply w_len; exact rfl; exact rfl; first | exact .ints _ | exact .intss _ | exact .sli rfl | exact .sls rfl | exact .slr rfl | exact .orow rfl | exact .nil) | omega | ((first | apply w_lss | apply w_leq | apply w_eql); iterate 3 exact rfl))
        all_goals exact .bool Try.results57 rfl (by rw [← hyes]; try (simp <;> omega))
      · have hA3 : geti l ((l.length : Int) - 1) ≠ 0 := by rcases hA.2 with k | k; omega; exact k
        repeat' (first | (apply AOps.nil; try simp only [List.nil_append, List.cons_append, List.set_cons_zero, List.set_cons_succ, List.length_cons, List.length_nil, Nat.reduceAdd, AV.sh, AV.sh1, AV.sh0, AO.sh, List.map_cons, List.map_nil, Nat.zero_add, Nat.add_zero, setAll]) | ((apply AOps.splitP; exact rfl; exact rfl) <;> intro h) | (apply w_move; exact rfl; exact rfl) | (apply w_assign; exact rfl; exact rfl) | apply AWp.seq | apply AWp.region | ((apply AWp.condP; exact rfl) <;> intro h) | apply AWp.block | apply AWp.ret | apply AWp.exit | apply AWp.skip | (apply w_skip; exact rfl) | (apply w_pickT; exact rfl; exact rfl; exact rfl) | (apply w_pickF; exact rfl; exact rfl; exact rfl) | (apply w_len; exact rfl; exact rfl; first | exact .ints _ | exact .intss _ | exact .sli rfl | exact .sls rfl | exact .slr rfl | exact .orow rfl | exact .nil) | omega | ((first | apply w_lss | apply w_leq | apply w_eql | apply w_neq | apply w_sub | apply w_idx | apply w_ld); iterate 3 exact rfl) | (apply inI_of <;> omega))
        all_goals exact .bool Try.results57 rfl (by rw [← hyes]; try (simp [hA3] <;> omega))
    · have hno : false = isPl l := (decide_eq_false (p := PlOk l) fun h => hA h.1).symm
      by_cases h1 : l.length ≤ 2001
      · have b1 : (l.length : Int) > 0 := by apply Classical.byContradiction; intro k; exact hA ⟨h1, .inl (by omega)⟩
        have b2 : geti l ((l.length : Int) - 1) = 0 := by apply Classical.byContradiction; intro k; exact hA ⟨h1, .inr k⟩
        repeat' (first | (apply AOps.nil; try simp only [List.nil_append, List.cons_append, List.set_cons_zero, List.set_cons_succ, List.length_cons, List.length_nil, Nat.reduceAdd, AV.sh, AV.sh1, AV.sh0, AO.sh, List.map_cons, List.map_nil, Nat.zero_add, Nat.add_zero, setAll]) | ((apply AOps.splitP; exact rfl; exact rfl) <;> intro h) | (apply w_move; exact rfl; exact rfl) | (apply w_assign; exact rfl; exact rfl) | apply AWp.seq | apply AWp.region | ((apply AWp.condP; exact rfl) <;> intro h) | apply AWp.block | apply AWp.ret | apply AWp.exit | apply AWp.skip | (apply w_skip; exact rfl) | (apply w_pickT; exact rfl; exact rfl; exact rfl) | (apply w_pickF; exact rfl; exact rfl; exact rfl) | (apply w_len; exact rfl; exact rfl; first | exact .ints _ | exact .intss _ | exact .sli rfl | exact .sls rfl | exact .slr rfl | exact .orow rfl | exact .nil) | omega | ((first | apply w_lss | apply w_leq | apply w_eql | apply w_neq | apply w_sub | apply w_idx | apply w_ld); iterate 3 exact rfl) | (apply inI_of <;> omega))
        all_goals exact .bool Try.results57 rfl (by rw [← hno]; try (simp [b2] <;> omega))
      · repeat' (first | (apply AOps.nil; try simp only [List.nil_append, List.cons_append, List.set_cons_zero, List.set_cons_succ, List.length_cons, List.length_nil, Nat.reduceAdd, AV.sh, AV.sh1, AV.sh0, AO.sh, List.map_cons, List.map_nil, Nat.zero_add, Nat.add_zero, setAll]) | ((apply AOps.splitP; exact rfl; exact rfl) <;> intro h) | (apply w_move; exact rfl; exact rfl) | (apply w_assign; exact rfl; exact rfl) | apply AWp.seq | apply AWp.region | ((apply AWp.condP; exact rfl) <;> intro h) | apply AWp.block | apply AWp.ret | apply AWp.exit | apply AWp.skip | (apply w_skip; exact rfl) | (apply w_pickF; exact rfl; exact rfl; exact rfl) | (apply w_len; exact rfl; exact rfl; first | exact .ints _ | exact .intss _ | exact .sli rfl | exact .sls rfl | exact .slr rfl | exact .orow rfl | exact .nil) | omega | ((first | apply w_lss | apply w_leq); iterate 3 exact rfl))
        all_goals exact .bool Try.results57 rfl (by rw [← hno]; try (simp <;> omega))
end Go.Proofs.Ytdkociacaagcoaa
/-
  Characteristic polynomials of zeta lists: the program and the reference. No condition.
-/
namespace Go.Proofs.Ytdkociacaagcoaa
open Go Go.RowKit
attribute [local irreducible] AWp AOps ResIs Ret1 QOp LOp COp AFnV AFn Imms LeE LeO
set_option maxHeartbeats 1000000
set_option linter.unusedSimpArgs false
set_option linter.unusedVariables false

/-- A product e times, with a look at each. -/
noncomputable def chR (f : List Int) : Nat → List Int → Option (List Int)
  | 0, o => some o
  | e + 1, o => if PlOk (pm o f) then chR f e (pm o f) else none
noncomputable def chL : List (List Int) → List Int → Option (List Int)
  | [], o => some o
  | r :: rs, o => match chR (phiW (geti r 0).toNat) (geti r 1).toNat o with
    | some o' => chL rs o'
    | none => none
theorem chL_at {L : List (List Int)} {i : Nat} (h : i < L.length) (o : List Int) : chL (L.drop i) o = match chR (phiW (geti (L.getD i []) 0).toNat) (geti (L.getD i []) 1).toNat o with
    | some o' => chL (L.drop (i + 1)) o'
    | none => none := by
  rw [List.drop_eq_getElem_cons h]
  have : L.getD i [] = L[i] := by rw [List.getD_eq_getElem?_getD, List.getElem?_eq_getElem h]; rfl
  rw [this]
  rfl
noncomputable def chE (Z : List (List Int)) : Int := if cpE Z = 0 then (if 1 - zsum Z Z.length > 2000 then 3 else (match chL (cpL Z) [1] with | some _ => 0 | none => 3)) else cpE Z
noncomputable def chV (Z : List (List Int)) : List Int := if cpE Z = 0 then (if 1 - zsum Z Z.length > 2000 then [] else (match chL (cpL Z) [1] with | some o => o | none => [])) else []
def OutOk (o : List Int) : Prop := 1 ≤ o.length ∧ o.length ≤ 2001
theorem pm_len (p q : List Int) : (pm p q).length = p.length + q.length - 1 := tab_len _ _
theorem phiW_len {n : Nat} (h : 1 ≤ n) (h2 : n ≤ 1000000) : 1 ≤ (phiW n).length ∧ (phiW n).length ≤ 1000001 := by
  have e : (phiW n).length = Cy.tot n + 1 := tab_len _ _
  have := tot_pos (n := n) (by omega)
  omega
theorem isZ_of_cp {Z : List (List Int)} (h : cpE Z = 0) : isZ Z = true := by
  cases hz : isZ Z with
  | true => rfl
  | false => simp [cpE, hz] at h
theorem nonneg_of_cp {Z : List (List Int)} (h : cpE Z = 0) : NonNeg (cpL Z) := by
  rw [cpL_of h]
  have hz := isZ_of_cp h
  unfold cpE at h
  rw [if_pos hz] at h
  split at h
  · assumption
  · cases h
/-- A new list, and a code. -/
def IsIC (T : TypeId) (xs : List Int) (e : Int) (r : AV) (os : List AO) : Prop := r = .tup [.own 0, .i e] ∧ os = [.sli T xs]

set_option maxHeartbeats 16000000 in
theorem implCharacteristic_c (Z : List (List Int)) : AFn Try.prog 15 [.intss Z] (IsIC 2 (chV Z) (chE Z)) := by
  have hc := completeNumbers_c Z
  obtain ⟨hlen, hz⟩ := cpL_zok Z
  (refine AFn.start Try.func15 Try.ntmps15 rfl (by kernel_rfl) fun hk => ?_; simp only [Env.start, enumF, List.length_cons, List.length_nil, Nat.reduceAdd, Nat.reduceSub, List.cons_append, List.nil_append])
  by_cases hE : cpE Z = 0
  · have hnn := nonneg_of_cp hE
    have hm := milnorOfZeta_c Z (isZ_of_cp hE)
    rw [hE] at hc
    have hV : chV Z = if 1 - zsum Z Z.length > 2000 then [] else (match chL (cpL Z) [1] with | some o => o | none => []) := by unfold chV; rw [if_pos hE]
    have hR : chE Z = if 1 - zsum Z Z.length > 2000 then 3 else (match chL (cpL Z) [1] with | some _ => 0 | none => 3) := by unfold chE; rw [if_pos hE]
    have hrow : ∀ n : Nat, n < (cpL Z).length → ((cpL Z).getD (n : Int).toNat []).length = 2 ∧ (1 ≤ geti ((cpL Z).getD (n : Int).toNat []) ((Int.toNat 0 : Nat) : Int) ∧ geti ((cpL Z).getD (n : Int).toNat []) ((Int.toNat 0 : Nat) : Int) ≤ 1000000) ∧ 0 ≤ geti ((cpL Z).getD (n : Int).toNat []) ((Int.toNat 1 : Nat) : Int) ∧ geti ((cpL Z).getD (n : Int).toNat []) ((Int.toNat 1 : Nat) : Int) ≤ 100000000 := fun n hn => by
      have := hz _ (at_mem hn)
      exact ⟨this.1, this.2.1, hnn n hn, this.2.2.2⟩
    by_cases hb : 1 - zsum Z Z.length > 2000
    · rw [if_pos hb] at hV hR
      repeat' (first | (apply AOps.nil; try simp only [List.nil_append, List.cons_append, List.set_cons_zero, List.set_cons_succ, List.length_cons, List.length_nil, Nat.reduceAdd, AV.sh, AV.sh1, AV.sh0, AO.sh, List.map_cons, List.map_nil, Nat.zero_add, Nat.add_zero, setAll]) | (apply w_move; exact rfl; exact rfl) | (apply w_assign; exact rfl; exact rfl) | apply AWp.seq | apply AWp.region | ((apply AWp.condP; exact rfl) <;> intro h) | apply AWp.ret | apply AWp.skip | (apply w_callm (hc); (focus ((repeat (first | exact im_nil | refine im_cons rfl (.intss _) ?_)); done)); rintro r os0 ⟨rfl, rfl⟩; try simp only [List.nil_append, List.cons_append, List.set_cons_zero, List.set_cons_succ, List.length_cons, List.length_nil, Nat.reduceAdd, AV.sh, AV.sh1, AV.sh0, AO.sh, List.map_cons, List.map_nil, Nat.zero_add, Nat.add_zero, setAll]) | (apply w_call (hm); exact rfl; exact rfl; focus ((repeat (first | exact im_nil | refine im_cons rfl (.intss _) ?_)); done)) | omega | ((first | apply w_gtr | apply w_neq | apply w_extv); iterate 3 exact rfl) | ((apply w_ext); iterate 3 exact rfl))
      exact ⟨_, _, _, .a2 Try.results15 rfl rfl, .tup2 (.nil 2), by rw [hR], by rw [hV]⟩
    · rw [if_neg hb] at hV hR
      generalize cpL Z = L at *
      obtain ⟨Rs, hRs⟩ : ∃ Rs, Rs = chL L [1] := ⟨_, rfl⟩
      rw [← hRs] at hV hR
      repeat' (first | (apply AOps.nil; try simp only [List.nil_append, List.cons_append, List.set_cons_zero, List.set_cons_succ, List.length_cons, List.length_nil, Nat.reduceAdd, AV.sh, AV.sh1, AV.sh0, AO.sh, List.map_cons, List.map_nil, Nat.zero_add, Nat.add_zero, setAll]) | (apply w_move; exact rfl; exact rfl) | (apply w_assign; exact rfl; exact rfl) | apply AWp.seq | apply AWp.region | ((apply AWp.condP; exact rfl) <;> intro h) | apply AWp.block | apply AWp.ret | apply AWp.skip | (apply w_len; exact rfl; exact rfl; first | exact .ints _ | exact .intss _ | exact .sli rfl | exact .sls rfl | exact .slr rfl | exact .orow rfl | exact .nil) | (apply w_callm (hc); (focus ((repeat (first | exact im_nil | refine im_cons rfl (.intss _) ?_)); done)); rintro r os0 ⟨rfl, rfl⟩; try simp only [List.nil_append, List.cons_append, List.set_cons_zero, List.set_cons_succ, List.length_cons, List.length_nil, Nat.reduceAdd, AV.sh, AV.sh1, AV.sh0, AO.sh, List.map_cons, List.map_nil, Nat.zero_add, Nat.add_zero, setAll]) | (apply w_call (hm); exact rfl; exact rfl; focus ((repeat (first | exact im_nil | refine im_cons rfl (.intss _) ?_)); done)) | omega | ((first | apply w_gtr | apply w_neq | apply w_extv); iterate 3 exact rfl) | ((apply w_ext); iterate 3 exact rfl) | ((apply w_bs1); iterate 2 exact rfl) | (apply inI_of <;> omega))
      refine AWp.loopS (ι := Nat × List Int) (fun s => ⟨46, [(0, .intss Z), (4, .own 0), (6, .own 1), (22, .own 0), (23, .i L.length), (24, .i s.1)]⟩) (fun s => [.sls 22 2 L, .sli 2 s.2]) (fun s => s.1 ≤ L.length ∧ OutOk s.2 ∧ chL (L.drop s.1) s.2 = Rs) (fun s => L.length - s.1) (0, [1]) ⟨by omega, ⟨by simp, by simp⟩, by rw [hRs]; rfl⟩ ⟨lee rfl (by (repeat (first | exact le_nil | refine le_eq rfl rfl ?_))), by (repeat (first | exact lo_nil | refine lo_eq rfl ?_)), rfl, rfl⟩ ?_
      rintro ⟨i, o⟩ ⟨i0, ho, hch⟩
      simp only at i0 ho hch
      by_cases hi : i < L.length
      · obtain ⟨r1, ⟨r2, r3⟩, r4, r5⟩ := hrow i hi
        have hnx := chL_at hi o
        rw [hch] at hnx
        have hnx : Rs = match chR (phiW (geti (L.getD (i : Int).toNat []) ((Int.toNat 0 : Nat) : Int)).toNat) (geti (L.getD (i : Int).toNat []) ((Int.toNat 1 : Nat) : Int)).toNat o with
          | some o' => chL (L.drop (i + 1)) o'
          | none => none := hnx
        have hcy := cyclotomic_c (geti (L.getD (i : Int).toNat []) ((Int.toNat 0 : Nat) : Int)).toNat (by omega) (by omega)
        rw [Int.toNat_of_nonneg (by omega)] at hcy
        have hfl := phiW_len (n := (geti (L.getD (i : Int).toNat []) ((Int.toNat 0 : Nat) : Int)).toNat) (by omega) (by omega)
        generalize phiW (geti (L.getD (i : Int).toNat []) ((Int.toNat 0 : Nat) : Int)).toNat = f at hcy hfl hnx
        obtain ⟨e, he⟩ : ∃ e : Nat, (e : Int) = geti (L.getD (i : Int).toNat []) ((Int.toNat 1 : Nat) : Int) := ⟨(geti (L.getD (i : Int).toNat []) ((Int.toNat 1 : Nat) : Int)).toNat, by omega⟩
        rw [← he, Int.toNat_natCast] at hnx
        repeat' (first | (apply AOps.nil; try simp only [List.nil_append, List.cons_append, List.set_cons_zero, List.set_cons_succ, List.length_cons, List.length_nil, Nat.reduceAdd, AV.sh, AV.sh1, AV.sh0, AO.sh, List.map_cons, List.map_nil, Nat.zero_add, Nat.add_zero, setAll]) | (apply w_move; exact rfl; exact rfl) | (apply w_assign; exact rfl; exact rfl) | apply AWp.seq | apply AWp.region | ((apply AWp.condP; exact rfl) <;> intro h) | apply AWp.block | apply AWp.ret | apply AWp.exit | apply AWp.skip | (apply w_callm (hcy); (focus ((repeat (first | exact im_nil | refine im_cons rfl (.val _) ?_)); done)); rintro r os0 ⟨rfl, rfl⟩; try simp only [List.nil_append, List.cons_append, List.set_cons_zero, List.set_cons_succ, List.length_cons, List.length_nil, Nat.reduceAdd, AV.sh, AV.sh1, AV.sh0, AO.sh, List.map_cons, List.map_nil, Nat.zero_add, Nat.add_zero, setAll]) | omega | ((first | apply w_lss | apply w_idx | apply w_ld); iterate 3 exact rfl) | (apply w_idxo; exact rfl; exact rfl; (exact .sls rfl); exact rfl) | ((first | apply w_idxr | apply w_ldr); iterate 4 exact rfl) | (apply w_ldls; iterate 4 exact rfl) | (apply w_ldrp; iterate 4 exact rfl))
        refine AWp.loopS (ι := Nat × List Int) (fun s => ⟨46, [(0, .intss Z), (4, .own 0), (6, .own 1), (9, .own 2), (22, .own 0), (23, .i L.length), (24, .i i), (34, .i e), (35, .i s.1)]⟩) (fun s => [.sls 22 2 L, .sli 2 s.2, .sli 2 f]) (fun s => s.1 ≤ e ∧ OutOk s.2 ∧ chR f e o = chR f (e - s.1) s.2) (fun s => e - s.1) (0, o) ⟨by omega, ho, rfl⟩ ⟨lee rfl (by (repeat (first | exact le_nil | refine le_eq rfl rfl ?_ | refine le_eq rfl (congrArg AV.i (by omega)) ?_))), by (repeat (first | exact lo_nil | refine lo_eq rfl ?_)), rfl, rfl⟩ ?_
        rintro ⟨k, o2⟩ ⟨k0, ho2, hck⟩
        simp only at k0 ho2 hck
        obtain ⟨ho3, ho4⟩ := ho2
        by_cases hk : k < e
        · have hpp := plainProduct_c o2 f ⟨ho3, by omega⟩ ⟨hfl.1, by omega⟩
          have hpl := pm_len o2 f
          have hip := IsPolynomial_c (pm o2 f)
          obtain ⟨e', he'⟩ : ∃ e', e - k = e' + 1 := ⟨e - k - 1, by omega⟩
          rw [he', chR] at hck
          by_cases hq : PlOk (pm o2 f)
          · have hq1 : isPl (pm o2 f) = true := decide_eq_true hq
            rw [hq1] at hip
            rw [if_pos hq] at hck
            repeat' (first | (apply AOps.nil; try simp only [List.nil_append, List.cons_append, List.set_cons_zero, List.set_cons_succ, List.length_cons, List.length_nil, Nat.reduceAdd, AV.sh, AV.sh1, AV.sh0, AO.sh, List.map_cons, List.map_nil, Nat.zero_add, Nat.add_zero, setAll]) | (apply w_move; exact rfl; exact rfl) | (apply w_assign; exact rfl; exact rfl) | apply AWp.seq | apply AWp.region | ((apply AWp.condP; exact rfl) <;> intro h) | (apply AWp.condF; exact rfl) | apply AWp.block | apply AWp.exit | apply AWp.skip | (apply w_callm (hpp); (focus ((repeat (first | exact im_nil | refine im_cons rfl (.sli rfl) ?_)); done)); rintro r os0 ⟨rfl, rfl⟩; try simp only [List.nil_append, List.cons_append, List.set_cons_zero, List.set_cons_succ, List.length_cons, List.length_nil, Nat.reduceAdd, AV.sh, AV.sh1, AV.sh0, AO.sh, List.map_cons, List.map_nil, Nat.zero_add, Nat.add_zero, setAll]) | (apply w_call (hip); exact rfl; exact rfl; focus ((repeat (first | exact im_nil | refine im_cons rfl (.sli rfl) ?_)); done)) | omega | ((first | apply w_lss | apply w_add); iterate 3 exact rfl) | ((apply w_not); iterate 2 exact rfl) | (apply inI_of <;> omega))
            refine ⟨(k + 1, pm o2 f), ⟨by simp only; omega, ⟨by simp only; omega, hq.1.1⟩, by simp only; rw [hck]; congr 1; omega⟩, by simp only; omega, ?_⟩
            (apply Or.inr; refine ⟨[0, 3, 2], ⟨by decide, fun x hx => Nat.lt_of_lt_of_le ((by decide : ∀ x ∈ ([0, 3, 2] : List Nat), x < 4) x hx) (Nat.le_of_ble_eq_true rfl)⟩, lee rfl ?_, ?_, rfl, rfl⟩; (focus ((repeat (first | exact le_nil | refine le_eq rfl rfl ?_)); done)); (focus ((repeat (first | exact lo_nil | refine lo_eq rfl ?_)); done)))
          · have hq1 : isPl (pm o2 f) = false := decide_eq_false hq
            rw [hq1] at hip
            rw [if_neg hq] at hck
            rw [hck] at hnx
            simp only at hnx
            rw [hnx] at hV hR
            repeat' (first | (apply AOps.nil; try simp only [List.nil_append, List.cons_append, List.set_cons_zero, List.set_cons_succ, List.length_cons, List.length_nil, Nat.reduceAdd, AV.sh, AV.sh1, AV.sh0, AO.sh, List.map_cons, List.map_nil, Nat.zero_add, Nat.add_zero, setAll]) | (apply w_move; exact rfl; exact rfl) | (apply w_assign; exact rfl; exact rfl) | apply AWp.seq | apply AWp.region | ((apply AWp.condP; exact rfl) <;> intro h) | (apply AWp.condT; exact rfl) | apply AWp.block | apply AWp.ret | apply AWp.exit | apply AWp.skip | (apply w_callm (hpp); (focus ((repeat (first | exact im_nil | refine im_cons rfl (.sli rfl) ?_)); done)); rintro r os0 ⟨rfl, rfl⟩; try simp only [List.nil_append, List.cons_append, List.set_cons_zero, List.set_cons_succ, List.length_cons, List.length_nil, Nat.reduceAdd, AV.sh, AV.sh1, AV.sh0, AO.sh, List.map_cons, List.map_nil, Nat.zero_add, Nat.add_zero, setAll]) | (apply w_call (hip); exact rfl; exact rfl; focus ((repeat (first | exact im_nil | refine im_cons rfl (.sli rfl) ?_)); done)) | omega | ((apply w_lss); iterate 3 exact rfl) | ((apply w_not); iterate 2 exact rfl))
            exact ⟨_, _, _, .a2 Try.results15 rfl rfl, .tup2 (.nil 2), by rw [hR], by rw [hV]⟩
        · have ek : k = e := by omega
          subst ek
          rw [Nat.sub_self, chR] at hck
          rw [hck] at hnx
          simp only at hnx
          repeat' (first | (apply AOps.nil; try simp only [List.nil_append, List.cons_append, List.set_cons_zero, List.set_cons_succ, List.length_cons, List.length_nil, Nat.reduceAdd, AV.sh, AV.sh1, AV.sh0, AO.sh, List.map_cons, List.map_nil, Nat.zero_add, Nat.add_zero, setAll]) | (apply w_move; exact rfl; exact rfl) | apply AWp.seq | apply AWp.region | ((apply AWp.condP; exact rfl) <;> intro h) | apply AWp.block | apply AWp.exit | apply AWp.skip | omega | ((first | apply w_lss | apply w_add); iterate 3 exact rfl) | (apply inI_of <;> omega))
          refine ⟨(i + 1, o2), ⟨by simp only; omega, ⟨ho3, ho4⟩, hnx.symm⟩, by simp only; omega, ?_⟩
          (apply Or.inl; refine ⟨lee rfl ?_, ?_, rfl, rfl⟩; (focus ((repeat (first | exact le_nil | refine le_eq rfl rfl ?_)); done)); (focus ((repeat (first | exact lo_nil | refine lo_eq rfl ?_)); done)))
      · have ei : i = L.length := by omega
        subst ei
        rw [List.drop_length, chL] at hch
        rw [← hch] at hV hR
        simp only at hV hR
        repeat' (first | (apply AOps.nil; try simp only [List.nil_append, List.cons_append, List.set_cons_zero, List.set_cons_succ, List.length_cons, List.length_nil, Nat.reduceAdd, AV.sh, AV.sh1, AV.sh0, AO.sh, List.map_cons, List.map_nil, Nat.zero_add, Nat.add_zero, setAll]) | (apply w_move; exact rfl; exact rfl) | (apply w_assign; exact rfl; exact rfl) | apply AWp.seq | apply AWp.region | ((apply AWp.condP; exact rfl) <;> intro h) | apply AWp.block | apply AWp.ret | apply AWp.exit | apply AWp.skip | omega | ((apply w_lss); iterate 3 exact rfl))
        exact ⟨_, _, _, .a2 Try.results15 rfl rfl, .tup2 (.sli rfl), by rw [hR], by rw [hV]⟩
  · have hV : chV Z = [] := by unfold chV; rw [if_neg hE]
    have hR : chE Z = cpE Z := by unfold chE; rw [if_neg hE]
    repeat' (first | (apply AOps.nil; try simp only [List.nil_append, List.cons_append, List.set_cons_zero, List.set_cons_succ, List.length_cons, List.length_nil, Nat.reduceAdd, AV.sh, AV.sh1, AV.sh0, AO.sh, List.map_cons, List.map_nil, Nat.zero_add, Nat.add_zero, setAll]) | (apply w_move; exact rfl; exact rfl) | (apply w_assign; exact rfl; exact rfl) | apply AWp.seq | apply AWp.region | ((apply AWp.condP; exact rfl) <;> intro h) | apply AWp.ret | apply AWp.skip | (apply w_callm (hc); (focus ((repeat (first | exact im_nil | refine im_cons rfl (.intss _) ?_)); done)); rintro r os0 ⟨rfl, rfl⟩; try simp only [List.nil_append, List.cons_append, List.set_cons_zero, List.set_cons_succ, List.length_cons, List.length_nil, Nat.reduceAdd, AV.sh, AV.sh1, AV.sh0, AO.sh, List.map_cons, List.map_nil, Nat.zero_add, Nat.add_zero, setAll]) | omega | ((first | apply w_neq | apply w_extv); iterate 3 exact rfl) | ((apply w_ext); iterate 3 exact rfl))
    all_goals first | exact ⟨_, _, _, .a2 Try.results15 rfl rfl, .tup2 (.nil 2), by rw [hR], by rw [hV]⟩ | (exfalso; simp_all; done)

set_option maxHeartbeats 16000000 in
theorem l14Characteristic_c (Z : List (List Int)) : AFn Try.prog 38 [.intss Z] (IsIC 2 (chV Z) (chE Z)) := by
  have hc := l14Complete_c Z
  obtain ⟨hlen, hz⟩ := cpL_zok Z
  (refine AFn.start Try.func38 Try.ntmps38 rfl (by kernel_rfl) fun hk => ?_; simp only [Env.start, enumF, List.length_cons, List.length_nil, Nat.reduceAdd, Nat.reduceSub, List.cons_append, List.nil_append])
  by_cases hE : cpE Z = 0
  · have hnn := nonneg_of_cp hE
    have hm := l14Milnor_c Z (isZ_of_cp hE)
    rw [hE] at hc
    have hV : chV Z = if 1 - zsum Z Z.length > 2000 then [] else (match chL (cpL Z) [1] with | some o => o | none => []) := by unfold chV; rw [if_pos hE]
    have hR : chE Z = if 1 - zsum Z Z.length > 2000 then 3 else (match chL (cpL Z) [1] with | some _ => 0 | none => 3) := by unfold chE; rw [if_pos hE]
    have hrow : ∀ n : Nat, n < (cpL Z).length → ((cpL Z).getD (n : Int).toNat []).length = 2 ∧ (1 ≤ geti ((cpL Z).getD (n : Int).toNat []) ((Int.toNat 0 : Nat) : Int) ∧ geti ((cpL Z).getD (n : Int).toNat []) ((Int.toNat 0 : Nat) : Int) ≤ 1000000) ∧ 0 ≤ geti ((cpL Z).getD (n : Int).toNat []) ((Int.toNat 1 : Nat) : Int) ∧ geti ((cpL Z).getD (n : Int).toNat []) ((Int.toNat 1 : Nat) : Int) ≤ 100000000 := fun n hn => by
      have := hz _ (at_mem hn)
      exact ⟨this.1, this.2.1, hnn n hn, this.2.2.2⟩
    by_cases hb : 1 - zsum Z Z.length > 2000
    · rw [if_pos hb] at hV hR
      repeat' (first | (apply AOps.nil; try simp only [List.nil_append, List.cons_append, List.set_cons_zero, List.set_cons_succ, List.length_cons, List.length_nil, Nat.reduceAdd, AV.sh, AV.sh1, AV.sh0, AO.sh, List.map_cons, List.map_nil, Nat.zero_add, Nat.add_zero, setAll]) | (apply w_move; exact rfl; exact rfl) | (apply w_assign; exact rfl; exact rfl) | apply AWp.seq | apply AWp.region | ((apply AWp.condP; exact rfl) <;> intro h) | apply AWp.ret | apply AWp.skip | (apply w_callm (hc); (focus ((repeat (first | exact im_nil | refine im_cons rfl (.intss _) ?_)); done)); rintro r os0 ⟨rfl, rfl⟩; try simp only [List.nil_append, List.cons_append, List.set_cons_zero, List.set_cons_succ, List.length_cons, List.length_nil, Nat.reduceAdd, AV.sh, AV.sh1, AV.sh0, AO.sh, List.map_cons, List.map_nil, Nat.zero_add, Nat.add_zero, setAll]) | (apply w_call (hm); exact rfl; exact rfl; focus ((repeat (first | exact im_nil | refine im_cons rfl (.intss _) ?_)); done)) | omega | ((first | apply w_gtr | apply w_neq | apply w_extv); iterate 3 exact rfl) | ((apply w_ext); iterate 3 exact rfl))
      exact ⟨_, _, _, .a2 Try.results38 rfl rfl, .tup2 (.nil 2), by rw [hR], by rw [hV]⟩
    · rw [if_neg hb] at hV hR
      generalize cpL Z = L at *
      obtain ⟨Rs, hRs⟩ : ∃ Rs, Rs = chL L [1] := ⟨_, rfl⟩
      rw [← hRs] at hV hR
      repeat' (first | (apply AOps.nil; try simp only [List.nil_append, List.cons_append, List.set_cons_zero, List.set_cons_succ, List.length_cons, List.length_nil, Nat.reduceAdd, AV.sh, AV.sh1, AV.sh0, AO.sh, List.map_cons, List.map_nil, Nat.zero_add, Nat.add_zero, setAll]) | (apply w_move; exact rfl; exact rfl) | (apply w_assign; exact rfl; exact rfl) | apply AWp.seq | apply AWp.region | ((apply AWp.condP; exact rfl) <;> intro h) | apply AWp.block | apply AWp.ret | apply AWp.skip | (apply w_callm (hc); (focus ((repeat (first | exact im_nil | refine im_cons rfl (.intss _) ?_)); done)); rintro r os0 ⟨rfl, rfl⟩; try simp only [List.nil_append, List.cons_append, List.set_cons_zero, List.set_cons_succ, List.length_cons, List.length_nil, Nat.reduceAdd, AV.sh, AV.sh1, AV.sh0, AO.sh, List.map_cons, List.map_nil, Nat.zero_add, Nat.add_zero, setAll]) | (apply w_call (hm); exact rfl; exact rfl; focus ((repeat (first | exact im_nil | refine im_cons rfl (.intss _) ?_)); done)) | omega | ((first | apply w_gtr | apply w_neq | apply w_extv); iterate 3 exact rfl) | ((apply w_ext); iterate 3 exact rfl) | ((apply w_bs1); iterate 2 exact rfl) | (apply inI_of <;> omega))
      refine AWp.loopS (ι := Nat × List Int) (fun s => ⟨52, [(0, .intss Z), (4, .own 0), (6, .own 1), (7, .i s.1)]⟩) (fun s => [.sls 22 2 L, .sli 2 s.2]) (fun s => s.1 ≤ L.length ∧ OutOk s.2 ∧ chL (L.drop s.1) s.2 = Rs) (fun s => L.length - s.1) (0, [1]) ⟨by omega, ⟨by simp, by simp⟩, by rw [hRs]; rfl⟩ ⟨lee rfl (by (repeat (first | exact le_nil | refine le_eq rfl rfl ?_))), by (repeat (first | exact lo_nil | refine lo_eq rfl ?_)), rfl, rfl⟩ ?_
      rintro ⟨i, o⟩ ⟨i0, ho, hch⟩
      simp only at i0 ho hch
      by_cases hi : i < L.length
      · obtain ⟨r1, ⟨r2, r3⟩, r4, r5⟩ := hrow i hi
        have hnx := chL_at hi o
        rw [hch] at hnx
        have hnx : Rs = match chR (phiW (geti (L.getD (i : Int).toNat []) ((Int.toNat 0 : Nat) : Int)).toNat) (geti (L.getD (i : Int).toNat []) ((Int.toNat 1 : Nat) : Int)).toNat o with
          | some o' => chL (L.drop (i + 1)) o'
          | none => none := hnx
        have hcy := l02Cyclotomic_c (geti (L.getD (i : Int).toNat []) ((Int.toNat 0 : Nat) : Int)).toNat (by omega) (by omega)
        rw [Int.toNat_of_nonneg (by omega)] at hcy
        have hfl := phiW_len (n := (geti (L.getD (i : Int).toNat []) ((Int.toNat 0 : Nat) : Int)).toNat) (by omega) (by omega)
        generalize phiW (geti (L.getD (i : Int).toNat []) ((Int.toNat 0 : Nat) : Int)).toNat = f at hcy hfl hnx
        obtain ⟨e, he⟩ : ∃ e : Nat, (e : Int) = geti (L.getD (i : Int).toNat []) ((Int.toNat 1 : Nat) : Int) := ⟨(geti (L.getD (i : Int).toNat []) ((Int.toNat 1 : Nat) : Int)).toNat, by omega⟩
        rw [← he, Int.toNat_natCast] at hnx
        repeat' (first | (apply AOps.nil; try simp only [List.nil_append, List.cons_append, List.set_cons_zero, List.set_cons_succ, List.length_cons, List.length_nil, Nat.reduceAdd, AV.sh, AV.sh1, AV.sh0, AO.sh, List.map_cons, List.map_nil, Nat.zero_add, Nat.add_zero, setAll]) | (apply w_move; exact rfl; exact rfl) | (apply w_assign; exact rfl; exact rfl) | apply AWp.seq | apply AWp.region | ((apply AWp.condP; exact rfl) <;> intro h) | apply AWp.block | apply AWp.ret | apply AWp.exit | apply AWp.skip | (apply w_len; exact rfl; exact rfl; first | exact .ints _ | exact .intss _ | exact .sli rfl | exact .sls rfl | exact .slr rfl | exact .orow rfl | exact .nil) | (apply w_callm (hcy); (focus ((repeat (first | exact im_nil | refine im_cons rfl (.val _) ?_)); done)); rintro r os0 ⟨rfl, rfl⟩; try simp only [List.nil_append, List.cons_append, List.set_cons_zero, List.set_cons_succ, List.length_cons, List.length_nil, Nat.reduceAdd, AV.sh, AV.sh1, AV.sh0, AO.sh, List.map_cons, List.map_nil, Nat.zero_add, Nat.add_zero, setAll]) | omega | ((first | apply w_lss | apply w_idx | apply w_ld); iterate 3 exact rfl) | (apply w_idxo; exact rfl; exact rfl; (exact .sls rfl); exact rfl) | ((first | apply w_idxr | apply w_ldr); iterate 4 exact rfl) | (apply w_ldls; iterate 4 exact rfl) | (apply w_ldrp; iterate 4 exact rfl))
        refine AWp.loopS (ι := Nat × List Int) (fun s => ⟨52, [(0, .intss Z), (4, .own 0), (6, .own 1), (7, .i i), (8, .own 2), (9, .i s.1)]⟩) (fun s => [.sls 22 2 L, .sli 2 s.2, .sli 2 f]) (fun s => s.1 ≤ e ∧ OutOk s.2 ∧ chR f e o = chR f (e - s.1) s.2) (fun s => e - s.1) (0, o) ⟨by omega, ho, rfl⟩ ⟨lee rfl (by (repeat (first | exact le_nil | refine le_eq rfl rfl ?_))), by (repeat (first | exact lo_nil | refine lo_eq rfl ?_)), rfl, rfl⟩ ?_
        rintro ⟨k, o2⟩ ⟨k0, ho2, hck⟩
        simp only at k0 ho2 hck
        obtain ⟨ho3, ho4⟩ := ho2
        by_cases hk : k < e
        · have hpp := l14Times_c o2 f ⟨ho3, by omega⟩ ⟨hfl.1, by omega⟩
          have hpl := pm_len o2 f
          have hip := l02Is_c (pm o2 f)
          obtain ⟨e', he'⟩ : ∃ e', e - k = e' + 1 := ⟨e - k - 1, by omega⟩
          rw [he', chR] at hck
          by_cases hq : PlOk (pm o2 f)
          · have hq1 : isPl (pm o2 f) = true := decide_eq_true hq
            rw [hq1] at hip
            rw [if_pos hq] at hck
            repeat' (first | (apply AOps.nil; try simp only [List.nil_append, List.cons_append, List.set_cons_zero, List.set_cons_succ, List.length_cons, List.length_nil, Nat.reduceAdd, AV.sh, AV.sh1, AV.sh0, AO.sh, List.map_cons, List.map_nil, Nat.zero_add, Nat.add_zero, setAll]) | (apply w_move; exact rfl; exact rfl) | (apply w_assign; exact rfl; exact rfl) | apply AWp.seq | apply AWp.region | ((apply AWp.condP; exact rfl) <;> intro h) | (apply AWp.condF; exact rfl) | apply AWp.block | apply AWp.exit | apply AWp.skip | (apply w_callm (hpp); (focus ((repeat (first | exact im_nil | refine im_cons rfl (.sli rfl) ?_)); done)); rintro r os0 ⟨rfl, rfl⟩; try simp only [List.nil_append, List.cons_append, List.set_cons_zero, List.set_cons_succ, List.length_cons, List.length_nil, Nat.reduceAdd, AV.sh, AV.sh1, AV.sh0, AO.sh, List.map_cons, List.map_nil, Nat.zero_add, Nat.add_zero, setAll]) | (apply w_call (hip); exact rfl; exact rfl; focus ((repeat (first | exact im_nil | refine im_cons rfl (.sli rfl) ?_)); done)) | omega | ((first | apply w_lss | apply w_add | apply w_idx | apply w_ld); iterate 3 exact rfl) | ((apply w_not); iterate 2 exact rfl) | (apply w_idxo; exact rfl; exact rfl; (exact .sls rfl); exact rfl) | ((first | apply w_idxr | apply w_ldr); iterate 4 exact rfl) | (apply w_ldls; iterate 4 exact rfl) | (apply w_ldrp; iterate 4 exact rfl) | (apply inI_of <;> omega))
            refine ⟨(k + 1, pm o2 f), ⟨by simp only; omega, ⟨by simp only; omega, hq.1.1⟩, by simp only; rw [hck]; congr 1; omega⟩, by simp only; omega, ?_⟩
            (apply Or.inr; refine ⟨[0, 3, 2], ⟨by decide, fun x hx => Nat.lt_of_lt_of_le ((by decide : ∀ x ∈ ([0, 3, 2] : List Nat), x < 4) x hx) (Nat.le_of_ble_eq_true rfl)⟩, lee rfl ?_, ?_, rfl, rfl⟩; (focus ((repeat (first | exact le_nil | refine le_eq rfl rfl ?_)); done)); (focus ((repeat (first | exact lo_nil | refine lo_eq rfl ?_)); done)))
          · have hq1 : isPl (pm o2 f) = false := decide_eq_false hq
            rw [hq1] at hip
            rw [if_neg hq] at hck
            rw [hck] at hnx
            simp only at hnx
            rw [hnx] at hV hR
            repeat' (first | (apply AOps.nil; try simp only [List.nil_append, List.cons_append, List.set_cons_zero, List.set_cons_succ, List.length_cons, List.length_nil, Nat.reduceAdd, AV.sh, AV.sh1, AV.sh0, AO.sh, List.map_cons, List.map_nil, Nat.zero_add, Nat.add_zero, setAll]) | (apply w_move; exact rfl; exact rfl) | (apply w_assign; exact rfl; exact rfl) | apply AWp.seq | apply AWp.region | ((apply AWp.condP; exact rfl) <;> intro h) | (apply AWp.condT; exact rfl) | apply AWp.block | apply AWp.ret | apply AWp.exit | apply AWp.skip | (apply w_callm (hpp); (focus ((repeat (first | exact im_nil | refine im_cons rfl (.sli rfl) ?_)); done)); rintro r os0 ⟨rfl, rfl⟩; try simp only [List.nil_append, List.cons_append, List.set_cons_zero, List.set_cons_succ, List.length_cons, List.length_nil, Nat.reduceAdd, AV.sh, AV.sh1, AV.sh0, AO.sh, List.map_cons, List.map_nil, Nat.zero_add, Nat.add_zero, setAll]) | (apply w_call (hip); exact rfl; exact rfl; focus ((repeat (first | exact im_nil | refine im_cons rfl (.sli rfl) ?_)); done)) | omega | ((first | apply w_lss | apply w_idx | apply w_ld); iterate 3 exact rfl) | ((apply w_not); iterate 2 exact rfl) | (apply w_idxo; exact rfl; exact rfl; (exact .sls rfl); exact rfl) | ((first | apply w_idxr | apply w_ldr); iterate 4 exact rfl) | (apply w_ldls; iterate 4 exact rfl) | (apply w_ldrp; iterate 4 exact rfl))
            exact ⟨_, _, _, .a2 Try.results38 rfl rfl, .tup2 (.nil 2), by rw [hR], by rw [hV]⟩
        · have ek : k = e := by omega
          subst ek
          rw [Nat.sub_self, chR] at hck
          rw [hck] at hnx
          simp only at hnx
          repeat' (first | (apply AOps.nil; try simp only [List.nil_append, List.cons_append, List.set_cons_zero, List.set_cons_succ, List.length_cons, List.length_nil, Nat.reduceAdd, AV.sh, AV.sh1, AV.sh0, AO.sh, List.map_cons, List.map_nil, Nat.zero_add, Nat.add_zero, setAll]) | (apply w_move; exact rfl; exact rfl) | (apply w_assign; exact rfl; exact rfl) | apply AWp.seq | apply AWp.region | ((apply AWp.condP; exact rfl) <;> intro h) | apply AWp.block | apply AWp.exit | apply AWp.skip | omega | ((first | apply w_lss | apply w_add | apply w_idx | apply w_ld); iterate 3 exact rfl) | (apply w_idxo; exact rfl; exact rfl; (exact .sls rfl); exact rfl) | ((first | apply w_idxr | apply w_ldr); iterate 4 exact rfl) | (apply w_ldls; iterate 4 exact rfl) | (apply w_ldrp; iterate 4 exact rfl) | (apply inI_of <;> omega))
          refine ⟨(i + 1, o2), ⟨by simp only; omega, ⟨ho3, ho4⟩, hnx.symm⟩, by simp only; omega, ?_⟩
          (apply Or.inl; refine ⟨lee rfl ?_, ?_, rfl, rfl⟩; (focus ((repeat (first | exact le_nil | refine le_eq rfl rfl ?_)); done)); (focus ((repeat (first | exact lo_nil | refine lo_eq rfl ?_)); done)))
      · have ei : i = L.length := by omega
        subst ei
        rw [List.drop_length, chL] at hch
        rw [← hch] at hV hR
        simp only at hV hR
        repeat' (first | (apply AOps.nil; try simp only [List.nil_append, List.cons_append, List.set_cons_zero, List.set_cons_succ, List.length_cons, List.length_nil, Nat.reduceAdd, AV.sh, AV.sh1, AV.sh0, AO.sh, List.map_cons, List.map_nil, Nat.zero_add, Nat.add_zero, setAll]) | (apply w_move; exact rfl; exact rfl) | (apply w_assign; exact rfl; exact rfl) | apply AWp.seq | apply AWp.region | ((apply AWp.condP; exact rfl) <;> intro h) | apply AWp.block | apply AWp.ret | apply AWp.exit | apply AWp.skip | (apply w_len; exact rfl; exact rfl; first | exact .ints _ | exact .intss _ | exact .sli rfl | exact .sls rfl | exact .slr rfl | exact .orow rfl | exact .nil) | omega | ((apply w_lss); iterate 3 exact rfl))
        exact ⟨_, _, _, .a2 Try.results38 rfl rfl, .tup2 (.sli rfl), by rw [hR], by rw [hV]⟩
  · have hV : chV Z = [] := by unfold chV; rw [if_neg hE]
    have hR : chE Z = cpE Z := by unfold chE; rw [if_neg hE]
    repeat' (first | (apply AOps.nil; try simp only [List.nil_append, List.cons_append, List.set_cons_zero, List.set_cons_succ, List.length_cons, List.length_nil, Nat.reduceAdd, AV.sh, AV.sh1, AV.sh0, AO.sh, List.map_cons, List.map_nil, Nat.zero_add, Nat.add_zero, setAll]) | (apply w_move; exact rfl; exact rfl) | (apply w_assign; exact rfl; exact rfl) | apply AWp.seq | apply AWp.region | ((apply AWp.condP; exact rfl) <;> intro h) | apply AWp.ret | apply AWp.skip | (apply w_callm (hc); (focus ((repeat (first | exact im_nil | refine im_cons rfl (.intss _) ?_)); done)); rintro r os0 ⟨rfl, rfl⟩; try simp only [List.nil_append, List.cons_append, List.set_cons_zero, List.set_cons_succ, List.length_cons, List.length_nil, Nat.reduceAdd, AV.sh, AV.sh1, AV.sh0, AO.sh, List.map_cons, List.map_nil, Nat.zero_add, Nat.add_zero, setAll]) | omega | ((first | apply w_neq | apply w_extv); iterate 3 exact rfl) | ((apply w_ext); iterate 3 exact rfl))
    all_goals first | exact ⟨_, _, _, .a2 Try.results38 rfl rfl, .tup2 (.nil 2), by rw [hR], by rw [hV]⟩ | (exfalso; simp_all; done)
end Go.Proofs.Ytdkociacaagcoaa
/-
  Branches as arguments and results of the laws. No condition.
-/
namespace Go.Proofs.Ytdkociacaagcoaa
open Go Go.RowKit
attribute [local irreducible] AWp AOps ResIs Ret1 QOp LOp COp AFnV AFn Imms LeE LeO
set_option maxHeartbeats 1000000
set_option linter.unusedSimpArgs false
set_option linter.unusedVariables false

end Go.Proofs.Ytdkociacaagcoaa
/-
  Branches: whether a value is one. No condition.
-/
namespace Go.Proofs.Ytdkociacaagcoaa
open Go Go.RowKit
attribute [local irreducible] AWp AOps ResIs Ret1 QOp LOp COp AFnV AFn Imms LeE LeO
set_option maxHeartbeats 1000000
set_option linter.unusedSimpArgs false
set_option linter.unusedVariables false

/-- The greatest common divisor of the first k entries. -/
def gd (xs : List Int) : Nat → Int
  | 0 => 0
  | k + 1 => (Int.gcd (gd xs k) (geti xs k) : Int)
def Asc (xs : List Int) : Prop := ∀ i : Nat, 0 < i → i < xs.length → geti xs ((i : Int) - 1) < geti xs i
def Fal (xs : List Int) : Prop := (∀ i : Nat, 0 < i → i < xs.length → gd xs (i + 1) < gd xs i) ∧ gd xs xs.length = 1
noncomputable instance (xs : List Int) : Decidable (Asc xs) := Classical.propDecidable _
noncomputable instance (xs : List Int) : Decidable (Fal xs) := Classical.propDecidable _
end Go.Proofs.Ytdkociacaagcoaa
/-
  Branches: the reference's test; parametrisations of branches. No condition.
-/
namespace Go.Proofs.Ytdkociacaagcoaa
open Go Go.RowKit
attribute [local irreducible] AWp AOps ResIs Ret1 QOp LOp COp AFnV AFn Imms LeE LeO
set_option maxHeartbeats 1000000
set_option linter.unusedSimpArgs false
set_option linter.unusedVariables false

/-! ### The parametrisation -/
end Go.Proofs.Ytdkociacaagcoaa
/-
  Zeta lists of branches: the plain law. No condition.
-/
namespace Go.Proofs.Ytdkociacaagcoaa
open Go Go.RowKit

def nR (xs : List Int) (i : Nat) : Int := gd xs i / gd xs (i + 1)
structure BrF (xs : List Int) : Prop where
  pos : 0 < xs.length
  tm : ∀ i : Nat, i < xs.length → 1 ≤ geti xs i ∧ geti xs i ≤ 2000
  x0 : gd xs 1 = geti xs 0 ∧ geti xs 0 ≤ 64
  asc : ∀ i : Nat, 0 < i → i < xs.length → geti xs ((i : Int) - 1) < geti xs i
  dv : ∀ i : Nat, 1 ≤ i → i ≤ xs.length → 1 ≤ gd xs i ∧ gd xs i ≤ 64
  dd : ∀ i : Nat, 1 ≤ i → i < xs.length → nR xs i * gd xs (i + 1) = gd xs i
  nr : ∀ i : Nat, 1 ≤ i → i < xs.length → 2 ≤ nR xs i ∧ nR xs i ≤ 64
  dt : ∀ j i : Nat, j < i → gd xs i ∣ geti xs j
  len : xs.length ≤ 7
/-! ### The list -/
end Go.Proofs.Ytdkociacaagcoaa
/-
  Branches: the ratios, the Newton pairs and the numbers w(i), in the program; the lists of n(i), w(i), r(i) in the reference. No condition.
-/
namespace Go.Proofs.Ytdkociacaagcoaa
open Go Go.RowKit
attribute [local irreducible] AWp AOps ResIs Ret1 QOp LOp COp AFnV AFn Imms LeE LeO
set_option maxHeartbeats 1000000
set_option linter.unusedSimpArgs false
set_option linter.unusedVariables false

end Go.Proofs.Ytdkociacaagcoaa
/-
  Branches: the numbers w(i) in the program; the lists of n(i), w(i), r(i) in the reference. No condition.
-/
namespace Go.Proofs.Ytdkociacaagcoaa
open Go Go.RowKit
attribute [local irreducible] AWp AOps ResIs Ret1 QOp LOp COp AFnV AFn Imms LeE LeO
set_option maxHeartbeats 1000000
set_option linter.unusedSimpArgs false
set_option linter.unusedVariables false

/-! ### The reference's lists -/
end Go.Proofs.Ytdkociacaagcoaa
/-
  Zeta lists of branches: the program and the reference. No condition.
-/
namespace Go.Proofs.Ytdkociacaagcoaa
open Go Go.RowKit
attribute [local irreducible] AWp AOps ResIs Ret1 QOp LOp COp AFnV AFn Imms LeE LeO
set_option maxHeartbeats 1000000
set_option linter.unusedSimpArgs false
set_option linter.unusedVariables false

end Go.Proofs.Ytdkociacaagcoaa
/-
  Zeta lists of branches: the law. No condition.
-/
namespace Go.Proofs.Ytdkociacaagcoaa
open Go Go.RowKit
attribute [local irreducible] AWp AOps ResIs Ret1 QOp LOp COp AFnV AFn Imms LeE LeO
set_option maxHeartbeats 1000000
set_option linter.unusedSimpArgs false
set_option linter.unusedVariables false

end Go.Proofs.Ytdkociacaagcoaa
/-
  Characteristic polynomials of zeta lists and of branches: the laws. No condition.
-/
namespace Go.Proofs.Ytdkociacaagcoaa
open Go Go.RowKit
attribute [local irreducible] AWp AOps ResIs Ret1 QOp LOp COp AFnV AFn Imms LeE LeO
set_option maxHeartbeats 1000000
set_option linter.unusedSimpArgs false
set_option linter.unusedVariables false

theorem chR_ok {f : List Int} (hf : 1 ≤ f.length) : ∀ (e : Nat) {o o' : List Int}, OutOk o → chR f e o = some o' → OutOk o'
  | 0, o, o', h, h' => by rw [chR] at h'; cases h'; exact h
  | e + 1, o, o', h, h' => by
    rw [chR] at h'
    split at h'
    · rename_i hp
      exact chR_ok hf e ⟨by rw [pm_len]; have := h.1; omega, hp.1.1⟩ h'
    · cases h'
theorem chL_ok : ∀ (L : List (List Int)) {o o' : List Int}, OutOk o → chL L o = some o' → OutOk o'
  | [], o, o', h, h' => by rw [chL] at h'; cases h'; exact h
  | r :: L, o, o', h, h' => by
    rw [chL] at h'
    split at h'
    · rename_i o1 h1
      exact chL_ok L (chR_ok (by rw [show (phiW (geti r 0).toNat).length = Cy.tot (geti r 0).toNat + 1 from tab_len _ _]; omega) _ h h1) h'
    · cases h'
theorem chV_len (Z : List (List Int)) : (chV Z).length ≤ 2001 := by
  unfold chV
  split
  · split
    · simp
    · split
      · rename_i o h
        exact (chL_ok _ ⟨by simp, by simp⟩ h).2
      · simp
  · simp
theorem eqInt64S_t (xs : List Int) : AFnV Try.prog 9 [.ints xs, .ints xs] (.bool true) := by
  have := eqInt64S_c xs xs
  simpa using this
theorem specCharacteristic_c (Z : List (List Int)) : AFn Try.prog 13 [.intss Z] (IsIC 2 (chV Z) (chE Z)) := by
  have h := l14Characteristic_c Z
  (refine AFn.start Try.func13 Try.ntmps13 rfl (by kernel_rfl) fun hk => ?_; simp only [Env.start, enumF, List.length_cons, List.length_nil, Nat.reduceAdd, Nat.reduceSub, List.cons_append, List.nil_append])
  repeat' (first | (apply AOps.nil; try simp only [List.nil_append, List.cons_append, List.set_cons_zero, List.set_cons_succ, List.length_cons, List.length_nil, Nat.reduceAdd, AV.sh, AV.sh1, AV.sh0, AO.sh, List.map_cons, List.map_nil, Nat.zero_add, Nat.add_zero, setAll]) | (apply w_move; exact rfl; exact rfl) | (apply w_assign; exact rfl; exact rfl) | apply AWp.seq | apply AWp.region | apply AWp.ret | (apply w_callm (h); (focus ((repeat (first | exact im_nil | refine im_cons rfl (.intss _) ?_)); done)); rintro r os0 ⟨rfl, rfl⟩; try simp only [List.nil_append, List.cons_append, List.set_cons_zero, List.set_cons_succ, List.length_cons, List.length_nil, Nat.reduceAdd, AV.sh, AV.sh1, AV.sh0, AO.sh, List.map_cons, List.map_nil, Nat.zero_add, Nat.add_zero, setAll]) | ((apply w_ext); iterate 3 exact rfl))
  all_goals exact ⟨_, _, _, .a2 Try.results13 rfl rfl, .tup2 (.sli rfl), rfl, rfl⟩
set_option maxHeartbeats 4000000 in
theorem lawCharacteristicOfZeta_c (xss : List (List Int)) : AFnV Try.prog 4 [.intss xss] (.bool true) := by
  (refine AFnV.start Try.func4 Try.ntmps4 rfl (by kernel_rfl) fun hk => ?_; simp only [Env.start, enumF, List.length_cons, List.length_nil, Nat.reduceAdd, Nat.reduceSub, List.cons_append, List.nil_append])
  repeat' (first | (apply AOps.nil; try simp only [List.nil_append, List.cons_append, List.set_cons_zero, List.set_cons_succ, List.length_cons, List.length_nil, Nat.reduceAdd, AV.sh, AV.sh1, AV.sh0, AO.sh, List.map_cons, List.map_nil, Nat.zero_add, Nat.add_zero, setAll]) | (apply w_move; exact rfl; exact rfl) | (apply w_assign; exact rfl; exact rfl) | apply AWp.seq | apply AWp.region | ((apply AWp.condP; exact rfl) <;> intro h) | apply AWp.ret | apply AWp.skip | (apply w_call (szInt64SS_c _ 1048576 (by omega) (by omega)); exact rfl; exact rfl; focus ((repeat (first | exact im_nil | refine im_cons rfl (.val _) ?_ | refine im_cons rfl (.intss _) ?_)); done)) | ((apply w_lss); iterate 3 exact rfl))
  · exact .bool Try.results4 rfl rfl
  have hs := szSS_ok (xss := xss) (left := 1048576) (by omega) (by omega)
  have hb : xss.length ≤ 1048576 := by omega
  have hr : ∀ xs ∈ xss, xs.length ≤ 1048576 := fun xs hx => by have := hs.2 xs hx; omega
  have c1 := cnt_le hr xss.length
  have hl := chV_len xss
  have d1 : cnt xss xss.length ≤ 4503599627370496 := by have : xss.length * 1048576 ≤ 1048576 * 1048576 := Nat.mul_le_mul_right _ hb; omega
  have m1 := markInt64SS_c 22 2 xss 1 (by omega) d1 (by omega)
  have m2 := markInt64S_c 2 (chV xss) 1 (by omega) (by omega)
  have m3 := heldInt64S_c (chV xss).length 1 (by omega) (by omega)
  repeat' (first | (apply AOps.nil; try simp only [List.nil_append, List.cons_append, List.set_cons_zero, List.set_cons_succ, List.length_cons, List.length_nil, Nat.reduceAdd, AV.sh, AV.sh1, AV.sh0, AO.sh, List.map_cons, List.map_nil, Nat.zero_add, Nat.add_zero, setAll]) | ((apply AOps.splitP; exact rfl; exact rfl) <;> intro h) | (apply w_move; exact rfl; exact rfl) | (apply w_assign; exact rfl; exact rfl) | apply AWp.seq | apply AWp.region | ((apply AWp.condP; exact rfl) <;> intro h) | (apply AWp.condT; exact rfl) | (apply AWp.condF; exact rfl) | apply AWp.ret | apply AWp.skip | (apply w_skip; exact rfl) | (apply w_pickT; exact rfl; exact rfl; exact rfl) | (apply w_pickF; exact rfl; exact rfl; exact rfl) | (apply w_callm (specCharacteristic_c _); (focus ((repeat (first | exact im_nil | refine im_cons rfl (.sls rfl) ?_)); done)); rintro r os0 ⟨rfl, rfl⟩; try simp only [List.nil_append, List.cons_append, List.set_cons_zero, List.set_cons_succ, List.length_cons, List.length_nil, Nat.reduceAdd, AV.sh, AV.sh1, AV.sh0, AO.sh, List.map_cons, List.map_nil, Nat.zero_add, Nat.add_zero, setAll]) | (apply w_callm (implCharacteristic_c _); (focus ((repeat (first | exact im_nil | refine im_cons rfl (.sls rfl) ?_)); done)); rintro r os0 ⟨rfl, rfl⟩; try simp only [List.nil_append, List.cons_append, List.set_cons_zero, List.set_cons_succ, List.length_cons, List.length_nil, Nat.reduceAdd, AV.sh, AV.sh1, AV.sh0, AO.sh, List.map_cons, List.map_nil, Nat.zero_add, Nat.add_zero, setAll]) | (apply w_call (eqInt64S_t _); exact rfl; exact rfl; focus ((repeat (first | exact im_nil | refine im_cons rfl (.sli rfl) ?_)); done)) | (apply w_call (eqInt64SS_t _); exact rfl; exact rfl; focus ((repeat (first | exact im_nil | refine im_cons rfl (.sls rfl) ?_)); done)) | (apply w_callu [2] (m1); (exact handed1 rfl True.intro); (focus ((repeat (first | exact imu_nil | refine imu_cons rfl (.val _) ?_ | refine imu_cons rfl (.own rfl) ?_)); done)); rintro v os0 ⟨rfl, rfl⟩; try simp only [List.nil_append, List.cons_append, List.set_cons_zero, List.set_cons_succ, List.length_cons, List.length_nil, Nat.reduceAdd, AV.sh, AV.sh1, AV.sh0, AO.sh, List.map_cons, List.map_nil, Nat.zero_add, Nat.add_zero, setAll]) | (apply w_callu [3] (m2); (exact handed1 rfl True.intro); (focus ((repeat (first | exact imu_nil | refine imu_cons rfl (.val _) ?_ | refine imu_cons rfl (.own rfl) ?_)); done)); rintro v os0 ⟨rfl, rfl⟩; try simp only [List.nil_append, List.cons_append, List.set_cons_zero, List.set_cons_succ, List.length_cons, List.length_nil, Nat.reduceAdd, AV.sh, AV.sh1, AV.sh0, AO.sh, List.map_cons, List.map_nil, Nat.zero_add, Nat.add_zero, setAll]) | (apply w_call (m3); exact rfl; exact rfl; focus ((repeat (first | exact im_nil | refine im_cons rfl (.val _) ?_ | refine im_cons rfl (.sli rfl) ?_)); done)) | (apply w_callm (toInt64SS_c _ hb hr); (focus ((repeat (first | exact im_nil | refine im_cons rfl (.intss _) ?_)); done)); rintro r os0 ⟨rfl, rfl⟩; try simp only [List.nil_append, List.cons_append, List.set_cons_zero, List.set_cons_succ, List.length_cons, List.length_nil, Nat.reduceAdd, AV.sh, AV.sh1, AV.sh0, AO.sh, List.map_cons, List.map_nil, Nat.zero_add, Nat.add_zero, setAll]) | ((first | apply w_lss | apply w_neq | apply w_extv); iterate 3 exact rfl) | ((apply w_ext); iterate 3 exact rfl) | ((apply w_not); iterate 2 exact rfl) | omega)
  all_goals exact .bool Try.results4 rfl rfl

/-! ### Branches -/
end Go.Proofs.Ytdkociacaagcoaa
