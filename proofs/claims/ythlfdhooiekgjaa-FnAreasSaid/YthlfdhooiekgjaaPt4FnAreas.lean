/-
  Parts of the proof, one behind the other: contracts of functions and plain laws. No condition.
-/
import Derived.Shelf.SlSortCmp.Whole1
import Derived.Test.YthlfdhooiekgjaaProg
import Derived.WalkKit
import Derived.Deep.LoopGhost
import Derived.Deep.Draws
import Derived.Lib.Walk
import Derived.Lib.Small
import Derived.Lib.Slices
import Derived.Shelf.RegionOpenPlain
import Derived.Sort.Lot0
import Derived.Sort.LotA
import Derived.Sort.LotD2
import Derived.Shelf.SlSortCmp.Insertion1
import Derived.Test.YthlfdhooiekgjaaPt3FnAreas
/-
  Supports: whether a list is one, and its values. No condition.
-/
namespace Go.Proofs.Ythlfdhooiekgjaa
open Go Go.RowKit
attribute [local irreducible] AWp AOps ResIs Ret1 QOp LOp COp AFnV AFn Imms LeE LeO
set_option maxHeartbeats 1000000
set_option linter.unusedSimpArgs false
set_option linter.unusedVariables false

/-- The i-th row of a support. -/
def SR (xss : List (List Int)) (i : Nat) : Prop :=
  (gets xss i).length = 2 ∧ (0 ≤ geti (gets xss i) 0 ∧ geti (gets xss i) 0 ≤ 60) ∧ (0 ≤ geti (gets xss i) 1 ∧ geti (gets xss i) 1 ≤ 60)
def IsSup (xss : List (List Int)) : Prop := (1 ≤ xss.length ∧ xss.length ≤ 200) ∧ ∀ j, j < xss.length → SR xss j
noncomputable instance (xss : List (List Int)) : Decidable (IsSup xss) := Classical.propDecidable _
noncomputable def isSup (xss : List (List Int)) : Bool := decide (IsSup xss)

theorem isSup_false {xss : List (List Int)} {i : Nat} (hi : i < xss.length) (h : ¬ SR xss i) : false = isSup xss := (decide_eq_false fun hz => h (hz.2 i hi)).symm
theorem isSup_bad {xss : List (List Int)} (h : ¬ (1 ≤ xss.length ∧ xss.length ≤ 200)) : false = isSup xss := (decide_eq_false fun hz => h hz.1).symm
theorem isSup_all {xss : List (List Int)} (h : ∀ j, j < xss.length → SR xss j) : isSup xss = decide (1 ≤ xss.length ∧ xss.length ≤ 200) := by
  unfold isSup
  by_cases h2 : 1 ≤ xss.length ∧ xss.length ≤ 200
  · rw [decide_eq_true ⟨h2, h⟩, decide_eq_true h2]
  · rw [decide_eq_false (fun hz => h2 hz.1), decide_eq_false h2]
theorem isSup_of {xss : List (List Int)} (h : isSup xss = true) : (1 ≤ xss.length ∧ xss.length ≤ 200) ∧ ∀ j, j < xss.length → SR xss j := of_decide_eq_true (p := IsSup xss) h

theorem within2 {xs : List Int} {a b : Int} (hl : xs.length = 2) : withinL xs a b = decide ((a ≤ geti xs 0 ∧ geti xs 0 ≤ b) ∧ (a ≤ geti xs 1 ∧ geti xs 1 ≤ b)) := by
  match xs, hl with
  | [x, y], _ => simp [withinL, geti]

theorem l15Is_c (xss : List (List Int)) : AFnV Try.prog 38 [.intss xss] (.bool (isSup xss)) := by
  (refine AFnV.start Try.func38 Try.ntmps38 rfl (by kernel_rfl) fun hk0 => ?_; simp only [Env.start, enumF, List.length_cons, List.length_nil, Nat.reduceAdd, Nat.reduceSub, List.cons_append, List.nil_append])
  obtain ⟨hk, hl⟩ : ArgOk (.intss xss) := hk0 _ (by simp)
  repeat' (first | (apply AOps.nil; try simp only [List.nil_append, List.cons_append, List.set_cons_zero, List.set_cons_succ, List.length_cons, List.length_nil, Nat.reduceAdd, AV.sh, AV.sh1, AV.sh0, AO.sh, List.map_cons, List.map_nil, Nat.zero_add, Nat.add_zero, setAll]) | (apply w_assign; exact rfl; exact rfl) | apply AWp.seq | apply AWp.region | apply AWp.block)
  refine AWp.loop (ι := Nat) (fun i => ⟨44, [(0, .intss xss), (3, .i i)]⟩) (fun _ => []) (fun i => i ≤ xss.length ∧ ∀ j, j < i → SR xss j) (fun i => xss.length - i) 0 ⟨by omega, fun j hj => by omega⟩ ⟨lee rfl (by (repeat (first | exact le_nil | refine le_eq rfl rfl ?_))), by (repeat (exact lo_nil)), rfl, rfl⟩ ?_
  rintro i ⟨h0, h1⟩
  repeat' (first | (apply AOps.nil; try simp only [List.nil_append, List.cons_append, List.set_cons_zero, List.set_cons_succ, List.length_cons, List.length_nil, Nat.reduceAdd, AV.sh, AV.sh1, AV.sh0, AO.sh, List.map_cons, List.map_nil, Nat.zero_add, Nat.add_zero, setAll]) | ((apply AOps.splitP; exact rfl; exact rfl) <;> intro h) | ((apply AOps.splitN; exact rfl; exact rfl) <;> intro h) | (apply w_move; exact rfl; exact rfl) | (apply w_assign; exact rfl; exact rfl) | apply AWp.seq | apply AWp.region | ((apply AWp.condP; exact rfl) <;> intro h) | ((apply AWp.condN; exact rfl) <;> intro h) | (apply AWp.condT; exact rfl) | apply AWp.block | apply AWp.ret | apply AWp.exit | apply AWp.skip | (apply w_skip; exact rfl) | (apply w_pickT; exact rfl; exact rfl; exact rfl) | (apply w_pickF; exact rfl; exact rfl; exact rfl) | (apply w_len; exact rfl; exact rfl; first | exact .ints _ | exact .intss _ | exact .sli rfl | exact .sls rfl | exact .slr rfl | exact .orow rfl | exact .nil) | (apply w_call (l01In_c _ _ _); exact rfl; exact rfl; focus ((repeat (first | exact im_nil | refine im_cons rfl (.val _) ?_)); done)) | ((first | apply w_lss | apply w_leq | apply w_geq | apply w_neq | apply w_add | apply w_idx | apply w_ld); iterate 3 exact rfl) | ((first | apply w_idxs | apply w_lds); iterate 3 exact rfl) | ((apply w_not); iterate 2 exact rfl) | (apply inI_of <;> omega) | omega)
  all_goals first
      | exact .bool Try.results38 rfl (isSup_false (i := i) (by omega) (fun hz => by unfold SR at hz; omega))
      | (refine ⟨i + 1, ⟨by omega, fun j hj => ?_⟩, by omega, ⟨lee rfl (by (repeat (first | exact le_nil | refine le_eq rfl rfl ?_))), by (repeat (exact lo_nil)), rfl, rfl⟩⟩
         by_cases e : j = i
         · subst e
           unfold SR
           omega
         · exact h1 j (by omega))
      | (have e : i = xss.length := by omega
         subst e
         exact .bool Try.results38 rfl (by rw [isSup_all h1, Bool.eq_iff_iff]; simp; omega))

theorem within2_c (xs : List Int) (hl : xs.length = 2) : AFnV Try.prog 41 [.ints xs, .i 0, .i 60] (.bool (decide ((0 ≤ geti xs 0 ∧ geti xs 0 ≤ 60) ∧ (0 ≤ geti xs 1 ∧ geti xs 1 ≤ 60)))) := by
  rw [← within2 hl]; exact within_c xs 0 60

theorem implIsSupport_c (xss : List (List Int)) : AFnV Try.prog 10 [.intss xss] (.bool (isSup xss)) := by
  (refine AFnV.start Try.func10 Try.ntmps10 rfl (by kernel_rfl) fun hk0 => ?_; simp only [Env.start, enumF, List.length_cons, List.length_nil, Nat.reduceAdd, Nat.reduceSub, List.cons_append, List.nil_append])
  obtain ⟨hk, hl⟩ : ArgOk (.intss xss) := hk0 _ (by simp)
  repeat' (first | (apply AOps.nil; try simp only [List.nil_append, List.cons_append, List.set_cons_zero, List.set_cons_succ, List.length_cons, List.length_nil, Nat.reduceAdd, AV.sh, AV.sh1, AV.sh0, AO.sh, List.map_cons, List.map_nil, Nat.zero_add, Nat.add_zero, setAll]) | ((apply AOps.splitP; exact rfl; exact rfl) <;> intro h) | (apply w_move; exact rfl; exact rfl) | (apply w_assign; exact rfl; exact rfl) | apply AWp.seq | apply AWp.region | ((apply AWp.condP; exact rfl) <;> intro h) | (apply AWp.condT; exact rfl) | apply AWp.block | apply AWp.ret | apply AWp.skip | (apply w_skip; exact rfl) | (apply w_pickT; exact rfl; exact rfl; exact rfl) | (apply w_pickF; exact rfl; exact rfl; exact rfl) | (apply w_len; exact rfl; exact rfl; first | exact .ints _ | exact .intss _ | exact .sli rfl | exact .sls rfl | exact .slr rfl | exact .orow rfl | exact .nil) | ((first | apply w_lss | apply w_gtr); iterate 3 exact rfl))
  · exact .bool Try.results10 rfl (isSup_bad (by omega))
  · exact .bool Try.results10 rfl (isSup_bad (by omega))
  refine AWp.loop (ι := Nat) (fun i => ⟨28, [(0, .intss xss), (13, .intss xss), (14, .i xss.length), (15, .i i)]⟩) (fun _ => []) (fun i => i ≤ xss.length ∧ ∀ j, j < i → SR xss j) (fun i => xss.length - i) 0 ⟨by omega, fun j hj => by omega⟩ ⟨lee rfl (by (repeat (first | exact le_nil | refine le_eq rfl rfl ?_))), by (repeat (exact lo_nil)), rfl, rfl⟩ ?_
  rintro i ⟨h0, h1⟩
  repeat' (first | (apply AOps.nil; try simp only [List.nil_append, List.cons_append, List.set_cons_zero, List.set_cons_succ, List.length_cons, List.length_nil, Nat.reduceAdd, AV.sh, AV.sh1, AV.sh0, AO.sh, List.map_cons, List.map_nil, Nat.zero_add, Nat.add_zero, setAll]) | ((apply AOps.splitP; exact rfl; exact rfl) <;> intro h) | (apply w_move; exact rfl; exact rfl) | (apply w_assign; exact rfl; exact rfl) | apply AWp.seq | apply AWp.region | ((apply AWp.condP; exact rfl) <;> intro h) | (apply AWp.condT; exact rfl) | ((apply AWp.condB; exact rfl) <;> intro h) | apply AWp.block | apply AWp.ret | apply AWp.exit | apply AWp.skip | (apply w_skip; exact rfl) | (apply w_pickT; exact rfl; exact rfl; exact rfl) | (apply w_pickF; exact rfl; exact rfl; exact rfl) | (apply w_len; exact rfl; exact rfl; first | exact .ints _ | exact .intss _ | exact .sli rfl | exact .sls rfl | exact .slr rfl | exact .orow rfl | exact .nil) | (apply w_call (within_c _ _ _); exact rfl; exact rfl; focus ((repeat (first | exact im_nil | refine im_cons rfl (.val _) ?_ | refine im_cons rfl (.ints _) ?_)); done)) | ((first | apply w_lss | apply w_neq | apply w_add | apply w_idx | apply w_ld); iterate 3 exact rfl) | ((first | apply w_idxs | apply w_lds); iterate 3 exact rfl) | ((apply w_not); iterate 2 exact rfl) | (apply inI_of <;> omega) | omega)
  all_goals first
    | (refine .bool Try.results10 rfl (isSup_false (i := i) ?_ ?_)
       · omega
       · intro hz
         unfold SR at hz
         first
           | omega
           | (rw [within2 (by omega)] at h
              simp at h
              omega))
    | (have hw := h
       rw [within2 (by omega)] at hw
       simp at hw
       refine ⟨i + 1, ⟨by omega, fun j hj => ?_⟩, by omega, ⟨lee rfl (by (repeat (first | exact le_nil | refine le_eq rfl rfl ?_))), by (repeat (exact lo_nil)), rfl, rfl⟩⟩
       by_cases e : j = i
       · subst e
         unfold SR
         omega
       · exact h1 j (by omega))
    | (have e : i = xss.length := by omega
       subst e
       refine .bool Try.results10 rfl ?_
       rw [isSup_all h1, Bool.eq_iff_iff]
       simp
       omega)

/-! ### Values -/
theorem mulS {p g : Int} (h0 : 0 ≤ p) (h1 : p ≤ 1000) (h2 : 0 ≤ g) (h3 : g ≤ 60) : 0 ≤ p * g ∧ p * g ≤ 60000 := by
  refine ⟨Int.mul_nonneg h0 h2, ?_⟩
  have := Int.mul_le_mul h1 h3 h2 (by omega : (0 : Int) ≤ 1000)
  omega

/-- The least value of the first row and the first k rows. -/
def svmin (xss : List (List Int)) (p q : Int) : Nat → Int
  | 0 => p * geti (gets xss 0) 0 + q * geti (gets xss 0) 1
  | k + 1 => min (svmin xss p q k) (p * geti (gets xss k) 0 + q * geti (gets xss k) 1)

theorem sv_in {xss : List (List Int)} (h : isSup xss = true) {p q : Int} (hp : 0 ≤ p ∧ p ≤ 1000) (hq : 0 ≤ q ∧ q ≤ 1000) (k : Nat) :
    (0 ≤ p * geti (gets xss k) 0 ∧ p * geti (gets xss k) 0 ≤ 60000) ∧ (0 ≤ q * geti (gets xss k) 1 ∧ q * geti (gets xss k) 1 ≤ 60000) := by
  by_cases hk : k < xss.length
  · have := (isSup_of h).2 k hk
    unfold SR at this
    exact ⟨mulS hp.1 hp.2 this.2.1.1 this.2.1.2, mulS hq.1 hq.2 this.2.2.1 this.2.2.2⟩
  · simp [gets, geti, List.getElem?_eq_none (show xss.length ≤ k by omega)]
theorem svmin_in {xss : List (List Int)} (h : isSup xss = true) {p q : Int} (hp : 0 ≤ p ∧ p ≤ 1000) (hq : 0 ≤ q ∧ q ≤ 1000) : ∀ k : Nat, 0 ≤ svmin xss p q k ∧ svmin xss p q k ≤ 120000
  | 0 => by have := sv_in h hp hq 0; simp only [svmin]; simp only [Int.natCast_zero] at this; omega
  | k + 1 => by
    have ih := svmin_in h hp hq k
    have := sv_in h hp hq k
    simp only [svmin]
    omega

noncomputable def svA (xss : List (List Int)) (p q : Int) : Int := if isSup xss = true ∧ (0 ≤ p ∧ p ≤ 1000) ∧ (0 ≤ q ∧ q ≤ 1000) then svmin xss p q xss.length else 0
noncomputable def svE (xss : List (List Int)) (p q : Int) : Int := if isSup xss = true then (if (0 ≤ p ∧ p ≤ 1000) ∧ (0 ≤ q ∧ q ≤ 1000) then 0 else 2) else 1

theorem implSupportValue_c (xss : List (List Int)) (p q : Int) : AFnV Try.prog 17 [.intss xss, .i p, .i q] (.tuple #[.int .i64 (svA xss p q), .int .i64 (svE xss p q)]) := by
  (refine AFnV.start Try.func17 Try.ntmps17 rfl (by kernel_rfl) fun hk => ?_; simp only [Env.start, enumF, List.length_cons, List.length_nil, Nat.reduceAdd, Nat.reduceSub, List.cons_append, List.nil_append])
  have c1 := implIsSupport_c xss
  cases h1 : isSup xss with
  | false =>
    rw [h1] at c1
    repeat' (first | (apply AOps.nil; try simp only [List.nil_append, List.cons_append, List.set_cons_zero, List.set_cons_succ, List.length_cons, List.length_nil, Nat.reduceAdd, AV.sh, AV.sh1, AV.sh0, AO.sh, List.map_cons, List.map_nil, Nat.zero_add, Nat.add_zero, setAll]) | (apply w_move; exact rfl; exact rfl) | (apply w_assign; exact rfl; exact rfl) | apply AWp.seq | apply AWp.region | (apply AWp.condT; exact rfl) | apply AWp.ret | (apply w_call (c1); exact rfl; exact rfl; focus ((repeat (first | exact im_nil | refine im_cons rfl (.intss _) ?_)); done)) | ((apply w_not); iterate 2 exact rfl))
    exact .intint Try.results17 rfl rfl (by simp [svA, h1]) (by simp [svE, h1])
  | true =>
  rw [h1] at c1
  by_cases hp : 0 ≤ p ∧ p ≤ 1000
  · by_cases hq : 0 ≤ q ∧ q ≤ 1000
    · obtain ⟨z1, z2⟩ := isSup_of h1
      have s0 := sv_in h1 hp hq 0
      have z0 := z2 0 (by omega)
      unfold SR at z0
      simp only [Int.natCast_zero] at s0 z0
      repeat' (first | (apply AOps.nil; try simp only [List.nil_append, List.cons_append, List.set_cons_zero, List.set_cons_succ, List.length_cons, List.length_nil, Nat.reduceAdd, AV.sh, AV.sh1, AV.sh0, AO.sh, List.map_cons, List.map_nil, Nat.zero_add, Nat.add_zero, setAll]) | ((apply AOps.splitN; exact rfl; exact rfl) <;> intro h) | (apply w_move; exact rfl; exact rfl) | (apply w_assign; exact rfl; exact rfl) | apply AWp.seq | apply AWp.region | ((apply AWp.condN; exact rfl) <;> intro h) | (apply AWp.condT; exact rfl) | (apply AWp.condF; exact rfl) | apply AWp.block | apply AWp.ret | apply AWp.skip | (apply AWp.regionQ; kernel_rfl; kernel_rfl) | (apply w_skip; exact rfl) | (apply w_pickT; exact rfl; exact rfl; exact rfl) | (apply w_pickF; exact rfl; exact rfl; exact rfl) | (apply w_len; exact rfl; exact rfl; first | exact .ints _ | exact .intss _ | exact .sli rfl | exact .sls rfl | exact .slr rfl | exact .orow rfl | exact .nil) | (apply w_call (c1); exact rfl; exact rfl; focus ((repeat (first | exact im_nil | refine im_cons rfl (.intss _) ?_)); done)) | (apply w_call (inRange_c _ _ _); exact rfl; exact rfl; focus ((repeat (first | exact im_nil | refine im_cons rfl (.val _) ?_)); done)) | ((first | apply w_add | apply w_mul | apply w_idx | apply w_ld); iterate 3 exact rfl) | ((first | apply w_idxs | apply w_lds); iterate 3 exact rfl) | ((apply w_not); iterate 2 exact rfl) | (apply inI_of <;> omega) | omega)
      refine AWp.loop (ι := Nat) (fun i => ⟨58, [(0, .intss xss), (1, .i p), (2, .i q), (8, .i (svmin xss p q i)), (37, .intss xss), (38, .i xss.length), (39, .i i)]⟩) (fun _ => []) (fun i => i ≤ xss.length) (fun i => xss.length - i) 0 (by omega) ⟨lee rfl (by (repeat (first | exact le_nil | refine le_eq rfl rfl ?_))), by (repeat (exact lo_nil)), rfl, rfl⟩ ?_
      rintro i h0
      have s1 := svmin_in h1 hp hq i
      have s2 := sv_in h1 hp hq i
      by_cases hi : i < xss.length
      · have s4 := z2 i hi
        unfold SR at s4
        repeat' (first | (apply AOps.nil; try simp only [List.nil_append, List.cons_append, List.set_cons_zero, List.set_cons_succ, List.length_cons, List.length_nil, Nat.reduceAdd, AV.sh, AV.sh1, AV.sh0, AO.sh, List.map_cons, List.map_nil, Nat.zero_add, Nat.add_zero, setAll]) | (apply w_move; exact rfl; exact rfl) | (apply w_assign; exact rfl; exact rfl) | apply AWp.seq | apply AWp.region | ((apply AWp.condP; exact rfl) <;> intro h) | apply AWp.block | apply AWp.ret | apply AWp.exit | apply AWp.skip | (apply AWp.regionQ; kernel_rfl; kernel_rfl) | ((first | apply w_lss | apply w_add | apply w_mul | apply w_idx | apply w_ld | apply w_min); iterate 3 exact rfl) | ((first | apply w_idxs | apply w_lds); iterate 3 exact rfl) | (apply inI_of <;> omega) | omega)
        exact ⟨i + 1, by omega, by omega, ⟨lee rfl (by (repeat (first | exact le_nil | refine le_eq rfl rfl ?_))), by (repeat (exact lo_nil)), rfl, rfl⟩⟩
      · repeat' (first | (apply AOps.nil; try simp only [List.nil_append, List.cons_append, List.set_cons_zero, List.set_cons_succ, List.length_cons, List.length_nil, Nat.reduceAdd, AV.sh, AV.sh1, AV.sh0, AO.sh, List.map_cons, List.map_nil, Nat.zero_add, Nat.add_zero, setAll]) | (apply w_move; exact rfl; exact rfl) | (apply w_assign; exact rfl; exact rfl) | apply AWp.seq | apply AWp.region | ((apply AWp.condP; exact rfl) <;> intro h) | apply AWp.block | apply AWp.ret | apply AWp.exit | apply AWp.skip | (apply AWp.regionQ; kernel_rfl; kernel_rfl) | ((first | apply w_lss | apply w_add | apply w_mul | apply w_idx | apply w_ld | apply w_min); iterate 3 exact rfl) | ((first | apply w_idxs | apply w_lds); iterate 3 exact rfl) | (apply inI_of <;> omega) | omega)
        have e : i = xss.length := by omega
        subst e
        exact .intint Try.results17 rfl rfl (by rw [svA, if_pos ⟨h1, hp, hq⟩]) (by rw [svE, if_pos h1, if_pos ⟨hp, hq⟩])
    · repeat' (first | (apply AOps.nil; try simp only [List.nil_append, List.cons_append, List.set_cons_zero, List.set_cons_succ, List.length_cons, List.length_nil, Nat.reduceAdd, AV.sh, AV.sh1, AV.sh0, AO.sh, List.map_cons, List.map_nil, Nat.zero_add, Nat.add_zero, setAll]) | ((apply AOps.splitN; exact rfl; exact rfl) <;> intro h) | (apply w_move; exact rfl; exact rfl) | (apply w_assign; exact rfl; exact rfl) | apply AWp.seq | apply AWp.region | ((apply AWp.condN; exact rfl) <;> intro h) | (apply AWp.condT; exact rfl) | (apply AWp.condF; exact rfl) | apply AWp.block | apply AWp.ret | apply AWp.skip | (apply AWp.regionQ; kernel_rfl; kernel_rfl) | (apply w_skip; exact rfl) | (apply w_pickT; exact rfl; exact rfl; exact rfl) | (apply w_pickF; exact rfl; exact rfl; exact rfl) | (apply w_len; exact rfl; exact rfl; first | exact .ints _ | exact .intss _ | exact .sli rfl | exact .sls rfl | exact .slr rfl | exact .orow rfl | exact .nil) | (apply w_call (c1); exact rfl; exact rfl; focus ((repeat (first | exact im_nil | refine im_cons rfl (.intss _) ?_)); done)) | (apply w_call (inRange_c _ _ _); exact rfl; exact rfl; focus ((repeat (first | exact im_nil | refine im_cons rfl (.val _) ?_)); done)) | ((first | apply w_add | apply w_mul | apply w_idx | apply w_ld); iterate 3 exact rfl) | ((first | apply w_idxs | apply w_lds); iterate 3 exact rfl) | ((apply w_not); iterate 2 exact rfl) | (apply inI_of <;> omega) | omega)
      all_goals exact .intint Try.results17 rfl rfl (by rw [svA, if_neg (fun e => hq e.2.2)]) (by rw [svE, if_pos h1, if_neg (fun e => hq e.2)])
  · repeat' (first | (apply AOps.nil; try simp only [List.nil_append, List.cons_append, List.set_cons_zero, List.set_cons_succ, List.length_cons, List.length_nil, Nat.reduceAdd, AV.sh, AV.sh1, AV.sh0, AO.sh, List.map_cons, List.map_nil, Nat.zero_add, Nat.add_zero, setAll]) | ((apply AOps.splitN; exact rfl; exact rfl) <;> intro h) | (apply w_move; exact rfl; exact rfl) | (apply w_assign; exact rfl; exact rfl) | apply AWp.seq | apply AWp.region | ((apply AWp.condN; exact rfl) <;> intro h) | (apply AWp.condT; exact rfl) | (apply AWp.condF; exact rfl) | apply AWp.block | apply AWp.ret | apply AWp.skip | (apply AWp.regionQ; kernel_rfl; kernel_rfl) | (apply w_skip; exact rfl) | (apply w_pickT; exact rfl; exact rfl; exact rfl) | (apply w_pickF; exact rfl; exact rfl; exact rfl) | (apply w_len; exact rfl; exact rfl; first | exact .ints _ | exact .intss _ | exact .sli rfl | exact .sls rfl | exact .slr rfl | exact .orow rfl | exact .nil) | (apply w_call (c1); exact rfl; exact rfl; focus ((repeat (first | exact im_nil | refine im_cons rfl (.intss _) ?_)); done)) | (apply w_call (inRange_c _ _ _); exact rfl; exact rfl; focus ((repeat (first | exact im_nil | refine im_cons rfl (.val _) ?_)); done)) | ((first | apply w_add | apply w_mul | apply w_idx | apply w_ld); iterate 3 exact rfl) | ((first | apply w_idxs | apply w_lds); iterate 3 exact rfl) | ((apply w_not); iterate 2 exact rfl) | (apply inI_of <;> omega) | omega)
    all_goals exact .intint Try.results17 rfl rfl (by rw [svA, if_neg (fun e => hp e.2.1)]) (by rw [svE, if_pos h1, if_neg (fun e => hp e.1)])

end Go.Proofs.Ythlfdhooiekgjaa
/-
  A copy of a list. No condition but a bound on the size.
-/
namespace Go.Proofs.Ythlfdhooiekgjaa
open Go Go.RowKit
attribute [local irreducible] AWp AOps ResIs Ret1 QOp LOp COp AFnV AFn Imms LeE LeO
set_option maxHeartbeats 1000000
set_option linter.unusedSimpArgs false
set_option linter.unusedVariables false

theorem l01Own_c (xs : List Int) (h2 : xs.length ≤ 1048576) : AFn Try.prog 71 [.ints xs] (IsInts 2 xs) := by
  (refine AFn.start Try.func71 Try.ntmps71 rfl (by kernel_rfl) fun hk => ?_; simp only [Env.start, enumF, List.length_cons, List.length_nil, Nat.reduceAdd, Nat.reduceSub, List.cons_append, List.nil_append])
  repeat' (first
  | (apply AOps.nil; try simp only [List.nil_append, List.cons_append, List.set_cons_zero, List.set_cons_succ, List.length_cons, List.length_nil, Nat.reduceAdd, AV.sh, AV.sh1, AV.sh0, AO.sh, List.map_cons, List.map_nil, Nat.zero_add, Nat.add_zero, setAll])
  | ((apply AOps.splitP; exact rfl; exact rfl) <;> intro h)
  | ((apply AOps.splitN; exact rfl; exact rfl) <;> intro h)
  | (apply w_move; exact rfl; exact rfl)
  | (apply w_assign; exact rfl; exact rfl)
  | apply AWp.seq
  | apply AWp.region
  | ((apply AWp.condP; exact rfl) <;> intro h)
  | ((apply AWp.condN; exact rfl) <;> intro h)
  | (apply AWp.condT; exact rfl)
  | (apply AWp.condF; exact rfl)
  | ((apply AWp.condB; exact rfl) <;> intro h)
  | apply AWp.block
  | apply AWp.ret
  | apply AWp.exit
  | apply AWp.skip
  | (apply AWp.regionQ; kernel_rfl; kernel_rfl)
  | (apply if_pos'; exact rfl)
  | (apply if_neg'; decide)
  | (apply w_skip; exact rfl)
  | (apply w_pickT; exact rfl; exact rfl; exact rfl)
  | (apply w_pickF; exact rfl; exact rfl; exact rfl)
  | (apply w_len; exact rfl; exact rfl; first | exact .ints _ | exact .intss _ | exact .sli rfl | exact .sls rfl | exact .slr rfl | exact .orow rfl | exact .nil)
  | ((first | apply w_lss | apply w_leq | apply w_gtr | apply w_geq | apply w_eql | apply w_neq | apply w_add | apply w_sub | apply w_mul | apply w_idx | apply w_ld | apply w_fld | apply w_fa | apply w_extv | apply w_min | apply w_max | apply w_slhi | apply w_sllo | apply w_bs2); iterate 3 exact rfl)
  | ((first | apply w_eqlb | apply w_neqb | apply w_idxs | apply w_lds | apply w_ext); iterate 3 exact rfl)
  | (apply w_rem; exact rfl; exact rfl; exact rfl; (focus (omega; done)); (focus (omega; done)))
  | (apply w_quo; exact rfl; exact rfl; exact rfl; (focus (omega; done)); (focus (omega; done)))
  | (apply w_remT; exact rfl; exact rfl; exact rfl)
  | (apply w_quoT; exact rfl; exact rfl; exact rfl)
  | ((first | apply w_not | apply w_neg | apply w_conv | apply w_build0 | apply w_bs1 | apply w_boxa); iterate 2 exact rfl)
  | (apply w_idxo; exact rfl; exact rfl; (first | exact .sli rfl | exact .sls rfl | exact .slr rfl); exact rfl)
  | ((first | apply w_idxr | apply w_ldr); iterate 4 exact rfl)
  | (apply w_ldo; iterate 4 exact rfl)
  | (apply w_ldls; iterate 4 exact rfl)
  | (apply w_ldrp; iterate 4 exact rfl)
  | (apply w_ldb; iterate 5 exact rfl)
  | (apply w_ldst; iterate 5 exact rfl)
  | ((first | apply w_sllh | apply w_stbi); iterate 4 exact rfl)
  | ((first | apply w_oslo | apply w_oshi | apply w_stbii); iterate 4 exact rfl)
  | (apply w_copy; exact rfl; (first | exact .own rfl rfl rfl | exact .osub); exact rfl; rotate_left 1; exact rfl; (first | exact .ints _ | exact .sli rfl | exact .orow rfl | exact .nil | exact .osub rfl (by simp; omega)))
  | (apply w_build1; exact rfl; exact rfl; (first | exact one_val rfl rfl | exact one_ints | exact one_intss | exact one_own rfl True.intro))
  | (apply w_build2; exact rfl; exact rfl; exact rfl; (first | exact one_val rfl rfl | exact one_ints | exact one_intss | exact one_own rfl True.intro); (first | exact one_val rfl rfl | exact one_ints | exact one_intss | exact one_own rfl True.intro))
  | (apply w_bs0; iterate 1 exact rfl)
  | (apply w_appn; exact rfl; exact rfl; (first | exact .ints _ | exact .sli rfl | exact .orow rfl | exact .nil | exact .osub rfl (by simp; omega)); exact rfl)
  | (apply w_app; exact rfl; exact rfl; exact rfl; exact rfl; (first | exact .ints _ | exact .sli rfl | exact .orow rfl | exact .nil | exact .osub rfl (by simp; omega)); rotate_left 1; simp only [Env.mp, List.map_cons, List.map_nil, List.set_cons_zero, List.set_cons_succ, AV.kill, AV.kill1, AO.kill, AV.noRow, AV.noRow1, AO.via, reduceIte, Nat.reduceEqDiff, Nat.reduceLT, Env.up, Nat.zero_ne_one, Nat.one_ne_zero, Nat.reduceAdd, List.cons_append, List.nil_append]; rotate_left 1)
  | (apply w_alst; iterate 2 exact rfl)
  | (apply w_alone; iterate 3 exact rfl)
  | (apply w_mki; exact rfl; exact rfl; rotate_left 3; exact rfl; rotate_left 1)
  | (apply w_mkr; exact rfl; exact rfl; rotate_left 3; exact rfl; rotate_left 1)
  | (apply w_strow; exact rfl; exact rfl; rotate_left 1; exact rfl; exact rfl; exact rfl; exact rfl; simp only [Env.mp, List.map_cons, List.map_nil, List.set_cons_zero, List.set_cons_succ, AV.kill, AV.kill1, AO.kill, AV.noRow, AV.noRow1, AO.via, reduceIte, Nat.reduceEqDiff, Nat.reduceLT, Env.up, Nat.zero_ne_one, Nat.one_ne_zero, Nat.reduceAdd, List.cons_append, List.nil_append]; rotate_left 1)
  | (apply w_sti; exact rfl; exact rfl; rotate_left 1; exact rfl; rotate_left 2)
  | (apply w_stst; iterate 5 exact rfl)
  | (apply w_stbv; iterate 6 exact rfl)
  | (apply w_stbo; exact rfl; exact rfl; exact rfl; exact rfl; exact rfl; exact True.intro)
  | ((apply AOps.splitB; exact rfl; exact rfl) <;> intro h)
  | apply AllOf.nil
  | (apply AllOf.cons; exact rfl)
  | (apply AAny.take; exact rfl; exact rfl; kernel_rfl; kernel_rfl)
  | (apply AAny.all; exact rfl)
  | (apply AAny.done; exact rfl)
  | (apply inI_of <;> omega)
  | omega
  | (simp <;> omega))
  all_goals exact ⟨_, _, _, .v1 Try.results71 rfl, .sli rfl, rfl, rfl⟩
theorem clone_c (xs : List Int) (h1 : 0 < xs.length) (h2 : xs.length ≤ 1048576) : AFn Try.prog 73 [.ints xs] (IsInts 2 xs) := by
  (refine AFn.start Try.func73 Try.ntmps73 rfl (by kernel_rfl) fun hk => ?_; simp only [Env.start, enumF, List.length_cons, List.length_nil, Nat.reduceAdd, Nat.reduceSub, List.cons_append, List.nil_append])
  repeat' (first
  | (apply AOps.nil; try simp only [List.nil_append, List.cons_append, List.set_cons_zero, List.set_cons_succ, List.length_cons, List.length_nil, Nat.reduceAdd, AV.sh, AV.sh1, AV.sh0, AO.sh, List.map_cons, List.map_nil, Nat.zero_add, Nat.add_zero, setAll])
  | ((apply AOps.splitP; exact rfl; exact rfl) <;> intro h)
  | ((apply AOps.splitN; exact rfl; exact rfl) <;> intro h)
  | (apply w_move; exact rfl; exact rfl)
  | (apply w_assign; exact rfl; exact rfl)
  | apply AWp.seq
  | apply AWp.region
  | ((apply AWp.condP; exact rfl) <;> intro h)
  | ((apply AWp.condN; exact rfl) <;> intro h)
  | (apply AWp.condT; exact rfl)
  | (apply AWp.condF; exact rfl)
  | ((apply AWp.condB; exact rfl) <;> intro h)
  | apply AWp.block
  | apply AWp.ret
  | apply AWp.exit
  | apply AWp.skip
  | (apply AWp.regionQ; kernel_rfl; kernel_rfl)
  | (apply if_pos'; exact rfl)
  | (apply if_neg'; decide)
  | (apply w_skip; exact rfl)
  | (apply w_pickT; exact rfl; exact rfl; exact rfl)
  | (apply w_pickF; exact rfl; exact rfl; exact rfl)
  | (apply w_len; exact rfl; exact rfl; first | exact .ints _ | exact .intss _ | exact .sli rfl | exact .sls rfl | exact .slr rfl | exact .orow rfl | exact .nil)
  | ((first | apply w_lenos | apply w_not | apply w_neg | apply w_conv | apply w_build0 | apply w_bs1 | apply w_boxa); iterate 2 exact rfl)
  | (apply w_idxos; iterate 3 exact rfl)
  | ((first | apply w_osubhi | apply w_alone); iterate 3 exact rfl)
  | (apply w_eqnil; iterate 2 exact rfl)
  | ((first | apply w_lss | apply w_leq | apply w_gtr | apply w_geq | apply w_eql | apply w_neq | apply w_add | apply w_sub | apply w_mul | apply w_idx | apply w_ld | apply w_fld | apply w_fa | apply w_extv | apply w_min | apply w_max | apply w_slhi | apply w_sllo | apply w_bs2); iterate 3 exact rfl)
  | ((first | apply w_eqlb | apply w_neqb | apply w_idxs | apply w_lds | apply w_ext); iterate 3 exact rfl)
  | (apply w_rem; exact rfl; exact rfl; exact rfl; (focus (omega; done)); (focus (omega; done)))
  | (apply w_quo; exact rfl; exact rfl; exact rfl; (focus (omega; done)); (focus (omega; done)))
  | (apply w_remT; exact rfl; exact rfl; exact rfl)
  | (apply w_quoT; exact rfl; exact rfl; exact rfl)
  | (apply w_idxo; exact rfl; exact rfl; (first | exact .sli rfl | exact .sls rfl | exact .slr rfl); exact rfl)
  | ((first | apply w_idxr | apply w_ldr); iterate 4 exact rfl)
  | (apply w_ldo; iterate 4 exact rfl)
  | (apply w_ldls; iterate 4 exact rfl)
  | (apply w_ldrp; iterate 4 exact rfl)
  | (apply w_ldb; iterate 5 exact rfl)
  | (apply w_ldst; iterate 5 exact rfl)
  | ((first | apply w_sllh | apply w_stbi); iterate 4 exact rfl)
  | ((first | apply w_oslo | apply w_oshi | apply w_stbii); iterate 4 exact rfl)
  | (apply w_copy; exact rfl; (first | exact .own rfl rfl rfl | exact .osub); exact rfl; rotate_left 1; exact rfl; (first | exact .ints _ | exact .sli rfl | exact .orow rfl | exact .nil | exact .osub rfl (by simp; omega)))
  | (apply w_build1; exact rfl; exact rfl; (first | exact one_val rfl rfl | exact one_ints | exact one_intss | exact one_own rfl True.intro))
  | (apply w_build2; exact rfl; exact rfl; exact rfl; (first | exact one_val rfl rfl | exact one_ints | exact one_intss | exact one_own rfl True.intro); (first | exact one_val rfl rfl | exact one_ints | exact one_intss | exact one_own rfl True.intro))
  | (apply w_bs0; iterate 1 exact rfl)
  | (apply w_appn; exact rfl; exact rfl; (first | exact .ints _ | exact .sli rfl | exact .orow rfl | exact .nil | exact .osub rfl (by simp; omega)); exact rfl)
  | (apply w_app; exact rfl; exact rfl; exact rfl; exact rfl; (first | exact .ints _ | exact .sli rfl | exact .orow rfl | exact .nil | exact .osub rfl (by simp; omega)); rotate_left 1; simp only [Env.mp, List.map_cons, List.map_nil, List.set_cons_zero, List.set_cons_succ, AV.kill, AV.kill1, AO.kill, AV.noRow, AV.noRow1, AO.via, reduceIte, Nat.reduceEqDiff, Nat.reduceLT, Env.up, Nat.zero_ne_one, Nat.one_ne_zero, Nat.reduceAdd, List.cons_append, List.nil_append]; rotate_left 1)
  | (apply w_alst; iterate 2 exact rfl)
  | (apply w_mki; exact rfl; exact rfl; rotate_left 3; exact rfl; rotate_left 1)
  | (apply w_mkr; exact rfl; exact rfl; rotate_left 3; exact rfl; rotate_left 1)
  | (apply w_strow; exact rfl; exact rfl; rotate_left 1; exact rfl; exact rfl; exact rfl; exact rfl; simp only [Env.mp, List.map_cons, List.map_nil, List.set_cons_zero, List.set_cons_succ, AV.kill, AV.kill1, AO.kill, AV.noRow, AV.noRow1, AO.via, reduceIte, Nat.reduceEqDiff, Nat.reduceLT, Env.up, Nat.zero_ne_one, Nat.one_ne_zero, Nat.reduceAdd, List.cons_append, List.nil_append]; rotate_left 1)
  | (apply w_sti; exact rfl; exact rfl; rotate_left 1; exact rfl; rotate_left 2)
  | (apply w_stst; iterate 5 exact rfl)
  | (apply w_stbv; iterate 6 exact rfl)
  | (apply w_stbo; exact rfl; exact rfl; exact rfl; exact rfl; exact rfl; exact True.intro)
  | ((apply AOps.splitB; exact rfl; exact rfl) <;> intro h)
  | apply AllOf.nil
  | (apply AllOf.cons; exact rfl)
  | (apply AAny.take; exact rfl; exact rfl; kernel_rfl; kernel_rfl)
  | (apply AAny.all; exact rfl)
  | (apply AAny.done; exact rfl)
  | (apply inI_of <;> omega)
  | omega
  | (simp <;> omega))
  all_goals exact ⟨_, _, _, .v1 Try.results73 rfl, .sli rfl, rfl, rfl⟩
end Go.Proofs.Ythlfdhooiekgjaa
/-
  Lower left hulls of sets of pairs: the chain built from the sorted pairs and the one that is wrapped from vertex to vertex are the same. No condition.
-/
namespace Go.Proofs.Ythlfdhooiekgjaa.Hl
section
variable {α : Type} (X Y : α → Int)

def cr (a b q : α) : Int := (X b - X a) * (Y q - Y a) - (Y b - Y a) * (X q - X a)
def lexle (a b : α) : Prop := X a < X b ∨ (X a = X b ∧ Y a ≤ Y b)

theorem tr {sx sy ux uy wx wy : Int} (h1 : uy < 0) (h2 : wy ≤ 0) (h3 : sy ≤ 0) (h4 : 0 ≤ sx*uy - sy*ux) (h5 : 0 ≤ ux*wy - uy*wx) : 0 ≤ sx*wy - sy*wx := by
  have e : uy * (sx*wy - sy*wx) = wy*(sx*uy-sy*ux) + sy*(ux*wy-uy*wx) := by grind
  have := Int.mul_nonneg (show 0 ≤ -wy by omega) h4
  have := Int.mul_nonneg (show 0 ≤ -sy by omega) h5
  apply Classical.byContradiction
  intro hn
  have := Int.mul_pos (show 0 < -uy by omega) (show 0 < -(sx*wy - sy*wx) by omega)
  grind
theorem trs {sx sy ux uy wx wy : Int} (h1 : uy < 0) (h2 : wy < 0) (h3 : sy ≤ 0) (h4 : 0 < sx*uy - sy*ux) (h5 : 0 ≤ ux*wy - uy*wx) : 0 < sx*wy - sy*wx := by
  have e : uy * (sx*wy - sy*wx) = wy*(sx*uy-sy*ux) + sy*(ux*wy-uy*wx) := by grind
  have := Int.mul_pos (show 0 < -wy by omega) h4
  have := Int.mul_nonneg (show 0 ≤ -sy by omega) h5
  apply Classical.byContradiction
  intro hn
  have := Int.mul_nonneg (show 0 ≤ -uy by omega) (show 0 ≤ -(sx*wy - sy*wx) by omega)
  grind
theorem tre {sx sy ux uy wx wy : Int} (h3 : sy < 0) (h4 : sx*uy - sy*ux = 0) (h5 : sx*wy - sy*wx = 0) : ux*wy-uy*wx = 0 := by
  have e : uy * (sx*wy - sy*wx) = wy*(sx*uy-sy*ux) + sy*(ux*wy-uy*wx) := by grind
  rw [h4, h5] at e
  have : sy * (ux*wy-uy*wx) = 0 := by grind
  rcases Int.mul_eq_zero.1 this with h | h
  · omega
  · exact h

/-- A direct one: q lies behind b and above it. -/
theorem cr_up {a b q : α} (h1 : X a ≤ X b) (h2 : Y b ≤ Y a) (h3 : X b ≤ X q) (h4 : Y b ≤ Y q) : 0 ≤ cr X Y a b q := by
  have e : cr X Y a b q = (X b - X a) * (Y q - Y b) + (Y a - Y b) * (X q - X b) := by unfold cr; grind
  have := Int.mul_nonneg (show 0 ≤ X b - X a by omega) (show 0 ≤ Y q - Y b by omega)
  have := Int.mul_nonneg (show 0 ≤ Y a - Y b by omega) (show 0 ≤ X q - X b by omega)
  omega
theorem cr_sh (a b q : α) : cr X Y a b q = (X b - X a) * (Y q - Y b) - (Y b - Y a) * (X q - X b) := by unfold cr; grind

/-- A stack, its top first. -/
def Hull (S : α → Prop) : List α → Prop
  | [] => False
  | [a] => S a ∧ ∀ q, S q → lexle X Y a q
  | b :: a :: r => S b ∧ Y b < Y a ∧ X a ≤ X b ∧ (∀ q, S q → Y q ≤ Y a → 0 ≤ cr X Y a b q) ∧ (∀ z r', r = z :: r' → 0 < cr X Y z a b) ∧ Hull S (a :: r)
def Low (S : α → Prop) (t : α) : Prop := ∀ q, S q → Y t ≤ Y q ∧ (Y q = Y t → X t ≤ X q)
def Aft (S : α → Prop) (t p : α) : Prop := ∀ q, S q → Y q ≤ Y t → 0 ≤ cr X Y t p q
def plus (S : α → Prop) (p : α) (q : α) : Prop := S q ∨ q = p

variable {X Y}
theorem Hull.top {S : α → Prop} {t : α} : ∀ {r : List α}, Hull X Y S (t :: r) → S t
  | [], h => h.1
  | _ :: _, h => h.1
theorem Hull.rest {S : α → Prop} {t a : α} {r : List α} (h : Hull X Y S (t :: a :: r)) : Hull X Y S (a :: r) := h.2.2.2.2.2

theorem Hull.ep {S : α → Prop} {p : α} (hs : ∀ q, S q → lexle X Y q p) : ∀ {r : List α} {a b : α}, Hull X Y S (b :: a :: r) → 0 ≤ cr X Y a b p → Hull X Y (plus S p) (b :: a :: r)
  | [], a, b, h, hc => by
    obtain ⟨h1, h2, h3, h4, h5, h6, h7⟩ := h
    refine ⟨.inl h1, h2, h3, fun q hq hy => ?_, fun z r' e => (by cases e), ⟨.inl h6, fun q hq => ?_⟩⟩
    · rcases hq with hq | rfl
      · exact h4 q hq hy
      · exact hc
    · rcases hq with hq | rfl
      · exact h7 q hq
      · exact hs _ h6
  | z :: r, a, b, h, hc => by
    obtain ⟨h1, h2, h3, h4, h5, h6⟩ := h
    have h6' := h6
    obtain ⟨g1, g2, g3, g4, g5, g6⟩ := h6
    have hz := h5 z r rfl
    refine ⟨.inl h1, h2, h3, fun q hq hy => ?_, fun z r' e => by cases e; exact hz, Hull.ep hs h6' ?_⟩
    · rcases hq with hq | rfl
      · exact h4 q hq hy
      · exact hc
    · by_cases hy : Y p ≤ Y a
      · rw [cr_sh] at hz ⊢
        refine tr (ux := X b - X a) (uy := Y b - Y a) (by omega) (by omega) (by omega) ?_ ?_
        · omega
        · unfold cr at hc; omega
      · have := hs a g1
        unfold lexle at this
        exact cr_up X Y (by omega) (by omega) (by omega) (by omega)

theorem Hull.skip {S : α → Prop} {p t : α} {r : List α} (hs : ∀ q, S q → lexle X Y q p) (h : Hull X Y S (t :: r)) (hl : Low X Y S t) (hp : Y t ≤ Y p) : Hull X Y (plus S p) (t :: r) ∧ Low X Y (plus S p) t := by
  have ht := hs t h.top
  unfold lexle at ht
  refine ⟨?_, fun q hq => ?_⟩
  · cases r with
    | nil =>
      refine ⟨.inl h.1, fun q hq => ?_⟩
      rcases hq with hq | rfl
      · exact h.2 q hq
      · exact hs _ h.1
    | cons a r =>
      refine h.ep hs (cr_up X Y h.2.2.1 ?_ ?_ hp)
      · have := h.2.1; omega
      · omega
  · rcases hq with hq | rfl
    · exact hl q hq
    · omega

theorem aft_low {S : α → Prop} {p t : α} (hl : Low X Y S t) (hp : Y p < Y t) : Aft X Y S t p := by
  intro q hq hy
  have := hl q hq
  have e : Y q = Y t := by omega
  unfold cr
  rw [e]
  have := Int.mul_nonneg (show 0 ≤ Y t - Y p by omega) (show 0 ≤ X q - X t by omega)
  grind

theorem Hull.pop {S : α → Prop} {p a b : α} {r : List α} (h : Hull X Y S (b :: a :: r)) (hc : ¬ 0 < cr X Y a b p) (hp : Y p < Y b) : Aft X Y S a p := by
  intro q hq hy
  have hb := h.2.2.2.1 q hq hy
  have h2 := h.2.1
  unfold cr at hb hc ⊢
  exact tr (ux := X b - X a) (uy := Y b - Y a) (by omega) (by omega) (by omega) (by grind) hb

theorem Hull.push {S : α → Prop} {p t : α} {r : List α} (hs : ∀ q, S q → lexle X Y q p) (h : Hull X Y S (t :: r)) (ha : Aft X Y S t p) (hp : Y p < Y t) (hall : ∀ q, S q → Y p < Y q) (hz : ∀ z r', r = z :: r' → 0 < cr X Y z t p) :
    Hull X Y (plus S p) (p :: t :: r) ∧ Low X Y (plus S p) p := by
  have ht := hs t h.top
  unfold lexle at ht
  refine ⟨⟨.inr rfl, hp, by omega, fun q hq hy => ?_, hz, ?_⟩, fun q hq => ?_⟩
  · rcases hq with hq | rfl
    · exact ha q hq hy
    · unfold cr; grind
  · cases r with
    | nil =>
      refine ⟨.inl h.1, fun q hq => ?_⟩
      rcases hq with hq | rfl
      · exact h.2 q hq
      · exact hs _ h.1
    | cons z r => exact h.ep hs (Int.le_of_lt (hz z r rfl))
  · rcases hq with hq | rfl
    · have := hall q hq; omega
    · omega

theorem Hull.one {S : α → Prop} {p : α} (h : ∀ q, ¬ S q) : Hull X Y (plus S p) [p] ∧ Low X Y (plus S p) p := by
  refine ⟨⟨.inr rfl, fun q hq => ?_⟩, fun q hq => ?_⟩
  · rcases hq with hq | rfl
    · exact absurd hq (h q)
    · unfold lexle; omega
  · rcases hq with hq | rfl
    · exact absurd hq (h q)
    · omega

theorem Hull.congr {S S' : α → Prop} (hS : ∀ q, S q ↔ S' q) {R : List α} (h : Hull X Y S R) : Hull X Y S' R := by
  have : S = S' := funext fun q => propext (hS q)
  rw [← this]; exact h
theorem Low.congr {S S' : α → Prop} (hS : ∀ q, S q ↔ S' q) {t : α} (h : Low X Y S t) : Low X Y S' t := by
  have : S = S' := funext fun q => propext (hS q)
  rw [← this]; exact h

/-! ### The wrapped chain -/
variable (X Y)
def isNext (S : α → Prop) (a b : α) : Prop := S b ∧ Y b < Y a ∧ ∀ q, S q → Y q < Y a → 0 ≤ cr X Y a b q ∧ (cr X Y a b q = 0 → Y b ≤ Y q)
def GWf (S : α → Prop) : List α → Prop
  | [] => False
  | [a] => ∀ q, S q → Y a ≤ Y q
  | a :: b :: r => isNext X Y S a b ∧ GWf S (b :: r)
def GW (S : α → Prop) (V : List α) : Prop := ∃ m r, V = m :: r ∧ S m ∧ (∀ q, S q → lexle X Y m q) ∧ GWf X Y S (m :: r)

variable {X Y}
theorem gwf_unique {S : α → Prop} (he : ∀ a b, S a → S b → X a = X b → Y a = Y b → a = b) : ∀ {r r' : List α} {a : α}, GWf X Y S (a :: r) → GWf X Y S (a :: r') → r = r'
  | [], [], _, _, _ => rfl
  | [], c :: r', a, h, h' => by
    have := h c h'.1.1
    have := h'.1.2.1
    omega
  | c :: r, [], a, h, h' => by
    have := h' c h.1.1
    have := h.1.2.1
    omega
  | b :: r, c :: r', a, h, h' => by
    obtain ⟨⟨b1, b2, b3⟩, b4⟩ := h
    obtain ⟨⟨c1, c2, c3⟩, c4⟩ := h'
    have p := b3 c c1 c2
    have q := c3 b b1 b2
    have e0 : cr X Y a c b = - cr X Y a b c := by unfold cr; grind
    have z : cr X Y a b c = 0 := by omega
    have ey : Y b = Y c := by have := p.2 z; have := q.2 (by omega); omega
    have ex : X b = X c := by
      unfold cr at z
      rw [← ey] at z
      have : (Y b - Y a) * (X b - X c) = 0 := by grind
      rcases Int.mul_eq_zero.1 this with h | h <;> omega
    obtain rfl := he b c b1 c1 ex ey
    rw [gwf_unique he b4 c4]

theorem gw_unique {S : α → Prop} (he : ∀ a b, S a → S b → X a = X b → Y a = Y b → a = b) {V V' : List α} (h : GW X Y S V) (h' : GW X Y S V') : V = V' := by
  obtain ⟨m, r, rfl, a1, a2, a3⟩ := h
  obtain ⟨m', r', rfl, b1, b2, b3⟩ := h'
  have p := a2 m' b1
  have q := b2 m a1
  unfold lexle at p q
  obtain rfl := he m m' a1 b1 (by omega) (by omega)
  rw [gwf_unique he a3 b3]

theorem Hull.conv {S : α → Prop} : ∀ {r : List α} {t : α} {l : List α}, Hull X Y S (t :: r) → GWf X Y S (t :: l) → (∀ c l', l = c :: l' → Y c < Y t ∧ (∀ q, S q → Y q ≤ Y t → 0 ≤ cr X Y t c q) ∧ (∀ z r', r = z :: r' → 0 < cr X Y z t c)) →
    GW X Y S (r.reverse ++ t :: l)
  | [], t, l, h, hg, _ => ⟨t, l, rfl, h.1, h.2, hg⟩
  | a :: r, t, l, h, hg, hl => by
    obtain ⟨h1, h2, h3, h4, h5, h6⟩ := h
    rw [List.reverse_cons, List.append_assoc]
    refine Hull.conv (l := t :: l) h6 ⟨⟨h1, h2, fun q hq hy => ⟨h4 q hq (by omega), fun h0 => ?_⟩⟩, hg⟩ ?_
    · apply Classical.byContradiction
      intro hn
      cases l with
      | nil => have := hg q hq; omega
      | cons c l' =>
        obtain ⟨c1, c2, c3⟩ := hl c l' rfl
        have k1 := c2 q hq (by omega)
        have k2 := c3 a r rfl
        rw [cr_sh] at h0 k2
        have := trs (sx := X t - X a) (sy := Y t - Y a) (ux := X c - X t) (uy := Y c - Y t) (wx := X q - X t) (wy := Y q - Y t) (by omega) (by omega) (by omega) k2 (by unfold cr at k1; omega)
        omega
    · intro c l' e
      cases e
      exact ⟨h2, h4, h5⟩

theorem Hull.gw {S : α → Prop} {t : α} {r : List α} (h : Hull X Y S (t :: r)) (hl : Low X Y S t) : GW X Y S (t :: r).reverse := by
  rw [List.reverse_cons]
  exact h.conv (l := []) (fun q hq => (hl q hq).1) (fun c l' e => by cases e)

/-! ### What is to come -/
variable (X Y)
def Pre (S : α → Prop) (V : List α) (a : α) : Prop := ∀ l, GWf X Y S (a :: l) → GW X Y S (V ++ a :: l)
variable {X Y}
theorem Pre.start {S : α → Prop} {a : α} (h : S a) (h1 : ∀ q, S q → lexle X Y a q) : Pre X Y S [] a := fun l hl => ⟨a, l, rfl, h, h1, hl⟩
theorem Pre.step {S : α → Prop} {a b : α} {V : List α} (h : Pre X Y S V a) (hn : isNext X Y S a b) : Pre X Y S (V ++ [a]) b := fun l hl => by
  rw [List.append_assoc]; exact h (b :: l) ⟨hn, hl⟩
theorem Pre.done {S : α → Prop} {a : α} {V : List α} (h : Pre X Y S V a) (hn : ∀ q, S q → Y a ≤ Y q) : GW X Y S (V ++ [a]) := h [] hn

/-- b is the best of S so far. -/
theorem next_keep {S : α → Prop} {a b p : α} (h : isNext X Y S a b) (hp : Y p < Y a → 0 ≤ cr X Y a b p ∧ (cr X Y a b p = 0 → Y b ≤ Y p)) : isNext X Y (plus S p) a b :=
  ⟨.inl h.1, h.2.1, fun q hq hy => by
    rcases hq with hq | rfl
    · exact h.2.2 q hq hy
    · exact hp hy⟩
theorem next_new {S : α → Prop} {a b p : α} (h : isNext X Y S a b) (hy : Y p < Y a) (hp : cr X Y a b p < 0 ∨ (cr X Y a b p = 0 ∧ Y p < Y b)) : isNext X Y (plus S p) a p := by
  obtain ⟨h1, h2, h3⟩ := h
  have e0 : cr X Y a p b = - cr X Y a b p := by unfold cr; grind
  refine ⟨.inr rfl, hy, fun q hq hyq => ?_⟩
  rcases hq with hq | rfl
  · obtain ⟨k1, k2⟩ := h3 q hq hyq
    rcases hp with hp | ⟨hp, hpy⟩
    · have := trs (sx := X p - X a) (sy := Y p - Y a) (ux := X b - X a) (uy := Y b - Y a) (wx := X q - X a) (wy := Y q - Y a) (by omega) (by omega) (by omega) (by unfold cr at e0 hp; omega) (by unfold cr at k1; omega)
      unfold cr
      omega
    · have := tr (sx := X p - X a) (sy := Y p - Y a) (ux := X b - X a) (uy := Y b - Y a) (wx := X q - X a) (wy := Y q - Y a) (by omega) (by omega) (by omega) (by unfold cr at e0 hp; omega) (by unfold cr at k1; omega)
      refine ⟨by unfold cr; omega, fun hz => ?_⟩
      have := tre (sx := X p - X a) (sy := Y p - Y a) (ux := X b - X a) (uy := Y b - Y a) (wx := X q - X a) (wy := Y q - Y a) (by omega) (by unfold cr at e0 hp; omega) (by unfold cr at hz; omega)
      have := k2 (by unfold cr; omega)
      omega
  · refine ⟨by unfold cr; grind, fun _ => Int.le_refl _⟩
theorem next_first {S : α → Prop} {a p : α} (h : ∀ q, S q → Y a ≤ Y q) (hy : Y p < Y a) : isNext X Y (plus S p) a p :=
  ⟨.inr rfl, hy, fun q hq hyq => by
    rcases hq with hq | rfl
    · have := h q hq; omega
    · exact ⟨by unfold cr; grind, fun _ => Int.le_refl _⟩⟩
end
end Go.Proofs.Ythlfdhooiekgjaa.Hl
/-
  Slices made empty, with room. No condition.
-/
namespace Go.Proofs.Ythlfdhooiekgjaa
open Go Go.RowKit
section
variable {P : Program} {env : Env} {os : List AO} {d : Option Tmp} {ty : TypeId} {pos : String} {af : Array Edge} {g : Option (Nat × Bool)}

theorem l_mkr0 {t e : TypeId} {bytes : Nat} [ht : TSlice P t e] [he : TElem P e (.slice none 0 0) bytes] (e2 : TypeId) {x y : Operand} {n : Int} (hx : AV.ev env x = .i 0) (hy : AV.ev env y = .i n) (h0 : 0 ≤ n) (hb : (bytes : Int) * n ≤ 281474976710656) (hm : n ≤ 9223372036854775807) :
    LOp P ⟨d, .makeSlice t x y, ty, pos, af, g⟩ env os (.own os.length) env (os ++ [.sls e e2 []]) := by
  refine l_new fun base w gs tm hr => ?_
  obtain ⟨ii, hi, hs, hz, hby⟩ := he.info
  obtain ⟨m, rfl⟩ := Int.eq_ofNat_of_zero_le h0
  have hb' : ii.bytes * m ≤ 281474976710656 := by
    have : ((bytes * m : Nat) : Int) ≤ 281474976710656 := by rw [Int.natCast_mul]; exact hb
    rw [hby]; omega
  obtain ⟨w', h1, h2, h3⟩ := run_make_own (P := P) w base t e ii _ 1 ht.und hi hz hs .i64 .i64 m hb' (by simp [maxLen]; omega) hr.hb
  have hbel : Below w.heap.size w w' := (Below.refl _ _).grown h3 (Nat.le_refl _) (fun k hk => by cases hk)
  have hlt := h2.lt w.heap.size rfl
  exact ⟨w', ⟨.slice (some ⟨w.heap.size, 0, none⟩) 0 m, w.heap.size, [w.heap.size], []⟩, by simp only [execOp, hr.evv hx, hr.evv hy, Sem.run_bind, h1, Result.andThen_ok, Sem.run_pure], hbel,
    fun b hb => by simp at hb; omega, fun ok gs' => ⟨[], [], [w.heap.size], by simpa using h2, rfl, rfl, rfl, fun i u hu => by simp at hu, .inr ⟨rfl, rfl⟩, by simp, by simp⟩⟩
end
section
variable {P : Program} {env : Env} {os : List AO} {d : Tmp} {ty : TypeId} {pos : String} {af : Array Edge} {l rest : List Oper} {K : APost}
theorem w_mkr0 {t e e2 : TypeId} {bytes : Nat} [TSlice P t e] [TSlice P e e2] [TElem P e (.slice none 0 0) bytes] {x y : Operand} {n : Int} {m : Nat} (hx : evo env x = some (.i 0)) (hy : evo env y = some (.i n)) (h0 : 0 ≤ n) (hb : (bytes : Int) * n ≤ 281474976710656) (h63 : n ≤ 9223372036854775807) (hm : os.length = m)
    (h' : AOps P .seq l rest K (env.up d (.own m)) (os ++ [.sls e e2 []])) : AOps P .seq l (⟨some d, .makeSlice t x y, ty, pos, af, none⟩ :: rest) K env os := AOps.lo (hm ▸ l_mkr0 e2 (ev_of hx) (ev_of hy) h0 hb h63) h'
end
end Go.Proofs.Ythlfdhooiekgjaa
/-
  Supports: copies of lists, the order of pairs, turns. No condition but a bound on the sizes.
-/
namespace Go.Proofs.Ythlfdhooiekgjaa
open Go Go.RowKit
attribute [local irreducible] AWp AOps ResIs Ret1 QOp LOp COp AFnV AFn Imms LeE LeO
set_option maxHeartbeats 1000000
set_option linter.unusedSimpArgs false
set_option linter.unusedVariables false


theorem copyLists_c (xss : List (List Int)) (hb : xss.length ≤ 1048576) (hr : ∀ xs ∈ xss, 0 < xs.length ∧ xs.length ≤ 1048576) : AFn Try.prog 65 [.intss xss] (IsIntss 38 2 xss) := by
  (refine AFn.start Try.func65 Try.ntmps65 rfl (by kernel_rfl) fun hk => ?_; simp only [Env.start, enumF, List.length_cons, List.length_nil, Nat.reduceAdd, Nat.reduceSub, List.cons_append, List.nil_append])
  repeat' (first | (apply AOps.nil; try simp only [List.nil_append, List.cons_append, List.set_cons_zero, List.set_cons_succ, List.length_cons, List.length_nil, Nat.reduceAdd, AV.sh, AV.sh1, AV.sh0, AO.sh, List.map_cons, List.map_nil, Nat.zero_add, Nat.add_zero, setAll]) | (apply w_move; exact rfl; exact rfl) | (apply w_assign; exact rfl; exact rfl) | apply AWp.seq | apply AWp.region | apply AWp.block | (apply w_len; exact rfl; exact rfl; first | exact .ints _ | exact .intss _ | exact .sli rfl | exact .sls rfl | exact .slr rfl | exact .orow rfl | exact .nil) | (apply w_mkr0; exact rfl; exact rfl; rotate_left 3; exact rfl; rotate_left 1) | omega)
  refine AWp.loop (ι := Nat) (fun i => ⟨22, [(3, .own 0), (9, .intss xss), (10, .i xss.length), (11, .i i)]⟩) (fun i => [.sls 38 2 (xss.take i)]) (fun i => i ≤ xss.length) (fun i => xss.length - i) 0 (by omega) ⟨lee rfl (by (repeat (first | exact le_nil | refine le_eq rfl rfl ?_))), by (repeat (first | exact lo_nil | refine lo_eq rfl ?_)), rfl, rfl⟩ ?_
  rintro i h0
  have e1 : (xss.take i).length = i := by simp; omega
  by_cases hi : i < xss.length
  · have hb2 := hr (gets xss i) (gets_mem (by omega) (by omega))
    have e2 : xss.take i ++ [gets xss i] = xss.take (i + 1) := by rw [List.take_succ_eq_append_getElem hi]; simp [gets, hi]
    repeat' (first | (apply AOps.nil; try simp only [List.nil_append, List.cons_append, List.set_cons_zero, List.set_cons_succ, List.length_cons, List.length_nil, Nat.reduceAdd, AV.sh, AV.sh1, AV.sh0, AO.sh, List.map_cons, List.map_nil, Nat.zero_add, Nat.add_zero, setAll]) | (apply w_move; exact rfl; exact rfl) | (apply w_assign; exact rfl; exact rfl) | apply AWp.seq | apply AWp.region | ((apply AWp.condP; exact rfl) <;> intro h) | apply AWp.block | apply AWp.ret | apply AWp.exit | apply AWp.skip | ((first | apply w_bsr1 | apply w_lss | apply w_add | apply w_idx | apply w_ld); iterate 3 exact rfl) | (apply w_appr; exact rfl; exact rfl; exact rfl; exact rfl; exact rfl; exact rfl; exact rfl; rotate_left 1; simp only [Env.mp, List.map_cons, List.map_nil, List.set_cons_zero, List.set_cons_succ, AV.kill, AV.kill1, AO.kill, AV.rin, AV.rin1, AV.noRow, AV.noRow1, AO.via, reduceIte, Nat.reduceEqDiff, Nat.reduceLT, Env.up, Nat.zero_ne_one, Nat.one_ne_zero, Nat.reduceAdd, List.cons_append, List.nil_append]; rotate_left 1) | (apply w_callm (clone_c _ hb2.1 hb2.2); (focus ((repeat (first | exact im_nil | refine im_cons rfl (.ints _) ?_)); done)); rintro r os0 ⟨rfl, rfl⟩; try simp only [List.nil_append, List.cons_append, List.set_cons_zero, List.set_cons_succ, List.length_cons, List.length_nil, Nat.reduceAdd, AV.sh, AV.sh1, AV.sh0, AO.sh, List.map_cons, List.map_nil, Nat.zero_add, Nat.add_zero, setAll]) | omega | ((first | apply w_idxs | apply w_lds); iterate 3 exact rfl) | (apply inI_of <;> omega))
    all_goals exact ⟨i + 1, by omega, by omega, ⟨lee rfl (by (repeat (first | exact le_nil | refine le_eq rfl rfl ?_))), by (repeat (first | exact lo_nil | refine lo_eq (congrArg (AO.sls _ _) (e2)) ?_)), rfl, rfl⟩⟩
  · repeat' (first | (apply AOps.nil; try simp only [List.nil_append, List.cons_append, List.set_cons_zero, List.set_cons_succ, List.length_cons, List.length_nil, Nat.reduceAdd, AV.sh, AV.sh1, AV.sh0, AO.sh, List.map_cons, List.map_nil, Nat.zero_add, Nat.add_zero, setAll]) | (apply w_move; exact rfl; exact rfl) | (apply w_assign; exact rfl; exact rfl) | apply AWp.seq | apply AWp.region | ((apply AWp.condP; exact rfl) <;> intro h) | apply AWp.block | apply AWp.ret | apply AWp.exit | apply AWp.skip | omega | ((apply w_lss); iterate 3 exact rfl))
    have e : i = xss.length := by omega
    subst e
    exact ⟨_, _, _, .v1 Try.results65 rfl, .sls rfl, rfl, by simp⟩

/-- A row of two numbers of moderate size. -/
def PB (r : List Int) : Prop := r.length = 2 ∧ (0 ≤ geti r 0 ∧ geti r 0 ≤ 100000) ∧ (0 ≤ geti r 1 ∧ geti r 1 ≤ 100000)
theorem mulPB {x y : Int} (hx : -100000 ≤ x ∧ x ≤ 100000) (hy : -100000 ≤ y ∧ y ≤ 100000) : -10000000000 ≤ x * y ∧ x * y ≤ 10000000000 := by
  have := Int.mul_nonneg (show 0 ≤ 100000 - x by omega) (show 0 ≤ 100000 + y by omega)
  have := Int.mul_nonneg (show 0 ≤ 100000 + x by omega) (show 0 ≤ 100000 - y by omega)
  have := Int.mul_nonneg (show 0 ≤ 100000 - x by omega) (show 0 ≤ 100000 - y by omega)
  have := Int.mul_nonneg (show 0 ≤ 100000 + x by omega) (show 0 ≤ 100000 + y by omega)
  constructor <;> grind
abbrev gX : List Int → Int := fun r => geti r 0
abbrev gY : List Int → Int := fun r => geti r 1

theorem turns_c (a b c : List Int) (ha : PB a) (hb : PB b) (hc : PB c) : AFnV Try.prog 69 [.ints a, .ints b, .ints c] (.bool (decide (0 < Hl.cr gX gY a b c))) := by
  obtain ⟨a1, a2, a3⟩ := ha
  obtain ⟨b1, b2, b3⟩ := hb
  obtain ⟨c1, c2, c3⟩ := hc
  have m1 := mulPB (x := geti b 0 - geti a 0) (y := geti c 1 - geti a 1) (by omega) (by omega)
  have m2 := mulPB (x := geti b 1 - geti a 1) (y := geti c 0 - geti a 0) (by omega) (by omega)
  (refine AFnV.start Try.func69 Try.ntmps69 rfl (by kernel_rfl) fun hk => ?_; simp only [Env.start, enumF, List.length_cons, List.length_nil, Nat.reduceAdd, Nat.reduceSub, List.cons_append, List.nil_append])
  repeat' (first | (apply AOps.nil; try simp only [List.nil_append, List.cons_append, List.set_cons_zero, List.set_cons_succ, List.length_cons, List.length_nil, Nat.reduceAdd, AV.sh, AV.sh1, AV.sh0, AO.sh, List.map_cons, List.map_nil, Nat.zero_add, Nat.add_zero, setAll]) | (apply w_move; exact rfl; exact rfl) | (apply w_assign; exact rfl; exact rfl) | apply AWp.seq | apply AWp.region | apply AWp.ret | (apply AWp.regionQ; kernel_rfl; kernel_rfl) | ((first | apply w_gtr | apply w_sub | apply w_mul | apply w_idx | apply w_ld); iterate 3 exact rfl) | (apply inI_of <;> omega) | omega)
  all_goals exact .bool Try.results69 rfl rfl

def less2 (a b : List Int) : Bool := decide (geti a 0 < geti b 0 ∨ (geti a 0 = geti b 0 ∧ geti a 1 < geti b 1))
theorem l01Less_c (a b : List Int) (ha : a.length = 2) (hb : b.length = 2) : AFnV Try.prog 70 [.ints a, .ints b] (.bool (less2 a b)) := by
  (refine AFnV.start Try.func70 Try.ntmps70 rfl (by kernel_rfl) fun hk => ?_; simp only [Env.start, enumF, List.length_cons, List.length_nil, Nat.reduceAdd, Nat.reduceSub, List.cons_append, List.nil_append])
  repeat' (first | (apply AOps.nil; try simp only [List.nil_append, List.cons_append, List.set_cons_zero, List.set_cons_succ, List.length_cons, List.length_nil, Nat.reduceAdd, AV.sh, AV.sh1, AV.sh0, AO.sh, List.map_cons, List.map_nil, Nat.zero_add, Nat.add_zero, setAll]) | (apply w_assign; exact rfl; exact rfl) | apply AWp.seq | apply AWp.region | apply AWp.block)
  refine AWp.loop (ι := Nat) (fun i => ⟨41, [(0, .ints a), (1, .ints b), (5, .i i)]⟩) (fun _ => []) (fun i => i ≤ 2 ∧ (1 ≤ i → geti a 0 = geti b 0) ∧ (2 ≤ i → geti a 1 = geti b 1)) (fun i => 2 - i) 0 ⟨by omega, fun h => by omega, fun h => by omega⟩ ⟨lee rfl (by (repeat (first | exact le_nil | refine le_eq rfl rfl ?_))), by (repeat (exact lo_nil)), rfl, rfl⟩ ?_
  rintro i ⟨h0, h1, h2⟩
  rcases (show i = 0 ∨ i = 1 ∨ i = 2 by omega) with rfl | rfl | rfl
  all_goals repeat' (first | (apply AOps.nil; try simp only [List.nil_append, List.cons_append, List.set_cons_zero, List.set_cons_succ, List.length_cons, List.length_nil, Nat.reduceAdd, AV.sh, AV.sh1, AV.sh0, AO.sh, List.map_cons, List.map_nil, Nat.zero_add, Nat.add_zero, setAll]) | ((apply AOps.splitP; exact rfl; exact rfl) <;> intro h) | (apply w_move; exact rfl; exact rfl) | (apply w_assign; exact rfl; exact rfl) | apply AWp.seq | apply AWp.region | ((apply AWp.condP; exact rfl) <;> intro h) | (apply AWp.condF; exact rfl) | apply AWp.block | apply AWp.ret | apply AWp.exit | apply AWp.skip | (apply AWp.regionQ; kernel_rfl; kernel_rfl) | (apply w_skip; exact rfl) | (apply w_pickT; exact rfl; exact rfl; exact rfl) | (apply w_pickF; exact rfl; exact rfl; exact rfl) | (apply w_len; exact rfl; exact rfl; first | exact .ints _ | exact .intss _ | exact .sli rfl | exact .sls rfl | exact .slr rfl | exact .orow rfl | exact .nil) | ((first | apply w_lss | apply w_neq | apply w_add | apply w_idx | apply w_ld); iterate 3 exact rfl) | (apply inI_of <;> omega) | omega)
  all_goals try simp only [Int.natCast_zero, Int.natCast_one] at *
  all_goals first
    | exact ⟨1, ⟨by omega, fun _ => by omega, fun h => by omega⟩, by omega, ⟨lee rfl (by (repeat (first | exact le_nil | refine le_eq rfl rfl ?_))), by (repeat (exact lo_nil)), rfl, rfl⟩⟩
    | exact ⟨2, ⟨by omega, fun _ => by omega, fun _ => by omega⟩, by omega, ⟨lee rfl (by (repeat (first | exact le_nil | refine le_eq rfl rfl ?_))), by (repeat (exact lo_nil)), rfl, rfl⟩⟩
    | (refine .bool Try.results70 rfl ?_
       unfold less2
       rw [Bool.eq_iff_iff, decide_eq_true_iff, decide_eq_true_iff]
       omega)
end Go.Proofs.Ythlfdhooiekgjaa
/-
  The vertices of a support: the reference's, wrapped from vertex to vertex. No condition but a bound on the sizes.
-/
namespace Go.Proofs.Ythlfdhooiekgjaa
open Go Go.RowKit
attribute [local irreducible] AWp AOps ResIs Ret1 QOp LOp COp AFnV AFn Imms LeE LeO
set_option maxHeartbeats 1000000
set_option linter.unusedSimpArgs false
set_option linter.unusedVariables false

/-- The vertices: the list that leads from the first pair to the lowest one, each the next of the one before. -/
def HasV (xss V : List (List Int)) : Prop := Hl.GW gX gY (· ∈ xss) V
noncomputable def verts (xss : List (List Int)) : List (List Int) := open Classical in if h : ∃ V, HasV xss V then h.choose else []

theorem row2_ext {a b : List Int} (ha : a.length = 2) (hb : b.length = 2) (h0 : geti a 0 = geti b 0) (h1 : geti a 1 = geti b 1) : a = b := by
  match a, b, ha, hb with
  | [x, y], [z, u], _, _ => simp [geti] at h0 h1; rw [h0, h1]
theorem verts_eq {xss V : List (List Int)} (hp : ∀ r ∈ xss, r.length = 2) (hv : HasV xss V) : verts xss = V := by
  unfold verts
  rw [dif_pos ⟨V, hv⟩]
  exact Hl.gw_unique (fun a b ha hb h0 h1 => row2_ext (hp a ha) (hp b hb) h0 h1) (Exists.choose_spec (⟨V, hv⟩ : ∃ V, HasV xss V)) hv

/-- One of the first i rows. -/
def Sp (xss : List (List Int)) (i : Nat) (q : List Int) : Prop := ∃ j : Nat, j < i ∧ q = gets xss j
theorem sp_succ (xss : List (List Int)) (i : Nat) : Hl.plus (Sp xss i) (gets xss i) = Sp xss (i + 1) := by
  funext q
  apply propext
  constructor
  · rintro (⟨j, hj, rfl⟩ | rfl)
    · exact ⟨j, by omega, rfl⟩
    · exact ⟨i, by omega, rfl⟩
  · rintro ⟨j, hj, rfl⟩
    by_cases e : j = i
    · subst e; exact .inr rfl
    · exact .inl ⟨j, by omega, rfl⟩
theorem sp_all (xss : List (List Int)) (q : List Int) : Sp xss xss.length q ↔ q ∈ xss := by
  constructor
  · rintro ⟨j, hj, rfl⟩; exact gets_mem (by omega) (by omega)
  · intro h
    obtain ⟨j, hj⟩ := List.getElem?_of_mem h
    have := (List.getElem?_eq_some_iff.1 hj).1
    exact ⟨j, this, by simp [gets, hj]⟩

def bestA (xss : List (List Int)) : Option Nat → AV
  | none => .own 2
  | some k => .ints (gets xss (k : Nat))
def BestOk (xss : List (List Int)) (a : List Int) (i : Nat) : Option Nat → Prop
  | none => ∀ q, Sp xss i q → gY a ≤ gY q
  | some k => k < xss.length ∧ Hl.isNext gX gY (Sp xss i) a (gets xss (k : Nat))

set_option maxHeartbeats 4000000 in
theorem l15Vertices_c (xss : List (List Int)) (h0 : 0 < xss.length) (h1 : xss.length ≤ 1048576) (hp : ∀ r ∈ xss, PB r) : AFn Try.prog 39 [.intss xss] (IsIntss 38 2 (verts xss)) := by
  have hpi : ∀ i : Nat, i < xss.length → PB (gets xss (i : Nat)) := fun i hi => hp _ (gets_mem (by omega) (by omega))
  have hp0 := (hpi 0 h0).1
  simp only [Int.natCast_zero] at hp0
  (refine AFn.start Try.func39 Try.ntmps39 rfl (by kernel_rfl) fun hk => ?_; simp only [Env.start, enumF, List.length_cons, List.length_nil, Nat.reduceAdd, Nat.reduceSub, List.cons_append, List.nil_append])
  repeat' (first | (apply AOps.nil; try simp only [List.nil_append, List.cons_append, List.set_cons_zero, List.set_cons_succ, List.length_cons, List.length_nil, Nat.reduceAdd, AV.sh, AV.sh1, AV.sh0, AO.sh, List.map_cons, List.map_nil, Nat.zero_add, Nat.add_zero, setAll]) | (apply w_move; exact rfl; exact rfl) | (apply w_assign; exact rfl; exact rfl) | apply AWp.seq | apply AWp.region | apply AWp.block | ((first | apply w_idxs | apply w_lds); iterate 3 exact rfl) | omega)
  refine AWp.loop (ι := Nat × Nat) (fun x => ⟨113, [(0, .intss xss), (3, .ints (gets xss (x.2 : Nat))), (4, .i x.1)]⟩) (fun _ => []) (fun x => x.1 ≤ xss.length ∧ x.2 < xss.length ∧ ∀ q, Sp xss x.1 q → Hl.lexle gX gY (gets xss (x.2 : Nat)) q) (fun x => xss.length - x.1) (0, 0) ⟨Nat.zero_le _, h0, fun q hq => by obtain ⟨j, hj, _⟩ := hq; omega⟩ ⟨lee rfl (by (repeat (first | exact le_nil | refine le_eq rfl rfl ?_))), by (repeat (exact lo_nil)), rfl, rfl⟩ ?_
  rintro ⟨i, m⟩ ⟨i0, i1, i2⟩
  simp only at i0 i1 i2
  obtain ⟨m1, m2, m3⟩ := hpi m i1
  by_cases hi : i < xss.length
  · obtain ⟨p1, p2, p3⟩ := hpi i hi
    have cl := l01Less_c (gets xss (i : Nat)) (gets xss (m : Nat)) p1 m1
    by_cases hc : less2 (gets xss (i : Nat)) (gets xss (m : Nat)) = true
    · rw [hc] at cl
      simp [less2] at hc
      repeat' (first | (apply AOps.nil; try simp only [List.nil_append, List.cons_append, List.set_cons_zero, List.set_cons_succ, List.length_cons, List.length_nil, Nat.reduceAdd, AV.sh, AV.sh1, AV.sh0, AO.sh, List.map_cons, List.map_nil, Nat.zero_add, Nat.add_zero, setAll]) | (apply w_move; exact rfl; exact rfl) | (apply w_assign; exact rfl; exact rfl) | apply AWp.seq | apply AWp.region | ((apply AWp.condP; exact rfl) <;> intro h) | (apply AWp.condT; exact rfl) | apply AWp.block | apply AWp.exit | apply AWp.skip | (apply w_len; exact rfl; exact rfl; first | exact .ints _ | exact .intss _ | exact .sli rfl | exact .sls rfl | exact .slr rfl | exact .orow rfl | exact .nil) | (apply w_call (cl); exact rfl; exact rfl; focus ((repeat (first | exact im_nil | refine im_cons rfl (.ints _) ?_)); done)) | omega | ((first | apply w_lss | apply w_add | apply w_idx | apply w_ld); iterate 3 exact rfl) | ((first | apply w_idxs | apply w_lds); iterate 3 exact rfl) | (apply inI_of <;> omega))
      refine ⟨(i + 1, i), ⟨by simp only; omega, hi, ?_⟩, by simp only; omega, ⟨lee rfl (by (repeat (first | exact le_nil | refine le_eq rfl rfl ?_))), by (repeat (exact lo_nil)), rfl, rfl⟩⟩
      simp only
      rw [← sp_succ]
      rintro q (hq | rfl)
      · have := i2 q hq
        unfold Hl.lexle at *
        simp only [gX, gY] at *
        omega
      · unfold Hl.lexle; omega
    · rw [Bool.not_eq_true] at hc
      rw [hc] at cl
      simp [less2] at hc
      repeat' (first | (apply AOps.nil; try simp only [List.nil_append, List.cons_append, List.set_cons_zero, List.set_cons_succ, List.length_cons, List.length_nil, Nat.reduceAdd, AV.sh, AV.sh1, AV.sh0, AO.sh, List.map_cons, List.map_nil, Nat.zero_add, Nat.add_zero, setAll]) | (apply w_move; exact rfl; exact rfl) | (apply w_assign; exact rfl; exact rfl) | apply AWp.seq | apply AWp.region | ((apply AWp.condP; exact rfl) <;> intro h) | (apply AWp.condF; exact rfl) | apply AWp.block | apply AWp.exit | apply AWp.skip | (apply w_len; exact rfl; exact rfl; first | exact .ints _ | exact .intss _ | exact .sli rfl | exact .sls rfl | exact .slr rfl | exact .orow rfl | exact .nil) | (apply w_call (cl); exact rfl; exact rfl; focus ((repeat (first | exact im_nil | refine im_cons rfl (.ints _) ?_)); done)) | omega | ((first | apply w_lss | apply w_add | apply w_idx | apply w_ld); iterate 3 exact rfl) | ((first | apply w_idxs | apply w_lds); iterate 3 exact rfl) | (apply inI_of <;> omega))
      refine ⟨(i + 1, m), ⟨by simp only; omega, i1, ?_⟩, by simp only; omega, ⟨lee rfl (by (repeat (first | exact le_nil | refine le_eq rfl rfl ?_))), by (repeat (exact lo_nil)), rfl, rfl⟩⟩
      simp only
      rw [← sp_succ]
      rintro q (hq | rfl)
      · exact i2 q hq
      · unfold Hl.lexle; simp only [gX, gY]; omega
  · have e : i = xss.length := by omega
    subst e
    have i3 : ∀ q, q ∈ xss → Hl.lexle gX gY (gets xss (m : Nat)) q := fun q hq => i2 q ((sp_all xss q).2 hq)
    have hown := l01Own_c (gets xss (m : Nat)) (by omega)
    repeat' (first | (apply AOps.nil; try simp only [List.nil_append, List.cons_append, List.set_cons_zero, List.set_cons_succ, List.length_cons, List.length_nil, Nat.reduceAdd, AV.sh, AV.sh1, AV.sh0, AO.sh, List.map_cons, List.map_nil, Nat.zero_add, Nat.add_zero, setAll]) | (apply w_move; exact rfl; exact rfl) | (apply w_assign; exact rfl; exact rfl) | apply AWp.seq | apply AWp.region | ((apply AWp.condP; exact rfl) <;> intro h) | apply AWp.block | apply AWp.exit | apply AWp.skip | (apply w_len; exact rfl; exact rfl; first | exact .ints _ | exact .intss _ | exact .sli rfl | exact .sls rfl | exact .slr rfl | exact .orow rfl | exact .nil) | (apply w_bsr1s; exact rfl; exact rfl; exact rfl; exact rfl; simp only [Env.mp, List.map_cons, List.map_nil, List.set_cons_zero, List.set_cons_succ, AV.kill, AV.kill1, AO.kill, AV.rin, AV.rin1, AV.noRow, AV.noRow1, AO.via, reduceIte, Nat.reduceEqDiff, Nat.reduceLT, Env.up, Nat.zero_ne_one, Nat.one_ne_zero, Nat.reduceAdd, List.cons_append, List.nil_append]) | (apply w_callm (hown); (focus ((repeat (first | exact im_nil | refine im_cons rfl (.ints _) ?_)); done)); rintro r os0 ⟨rfl, rfl⟩; try simp only [List.nil_append, List.cons_append, List.set_cons_zero, List.set_cons_succ, List.length_cons, List.length_nil, Nat.reduceAdd, AV.sh, AV.sh1, AV.sh0, AO.sh, List.map_cons, List.map_nil, Nat.zero_add, Nat.add_zero, setAll]) | omega | ((apply w_lss); iterate 3 exact rfl))
    refine AWp.loop (ι := List (List Int) × Nat) (fun x => ⟨113, [(0, .intss xss), (3, .ints (gets xss (x.2 : Nat))), (5, .own 1)]⟩) (fun x => [.dead, .sls 38 2 (x.1 ++ [gets xss (x.2 : Nat)])]) (fun x => x.2 < xss.length ∧ Hl.Pre gX gY (· ∈ xss) x.1 (gets xss (x.2 : Nat)) ∧ x.1.length + gY (gets xss (x.2 : Nat)) ≤ 100001) (fun x => (gY (gets xss (x.2 : Nat))).toNat) ([], m) ⟨i1, Hl.Pre.start (gets_mem (by omega) (by omega)) i3, by simp only [List.length_nil, gY]; omega⟩ ⟨lee rfl (by (repeat (first | exact le_nil | refine le_eq rfl rfl ?_))), by (repeat (first | exact lo_nil | refine lo_dead ?_ | refine lo_eq rfl ?_)), rfl, rfl⟩ ?_
    clear hown i3 m1 m2 m3 i0 i1 i2 hi m
    rintro ⟨V, m⟩ ⟨i1, i2, i3⟩
    simp only at i1 i2 i3
    obtain ⟨m1, m2, m3⟩ := hpi m i1
    obtain ⟨a, ea⟩ : ∃ a, a = gets xss (m : Nat) := ⟨_, rfl⟩
    rw [← ea] at i2 i3 m1 m2 m3
    simp only [← ea]
    repeat' (first | (apply AOps.nil; try simp only [List.nil_append, List.cons_append, List.set_cons_zero, List.set_cons_succ, List.length_cons, List.length_nil, Nat.reduceAdd, AV.sh, AV.sh1, AV.sh0, AO.sh, List.map_cons, List.map_nil, Nat.zero_add, Nat.add_zero, setAll]) | (apply w_assign; exact rfl; exact rfl) | apply AWp.seq | apply AWp.region | apply AWp.block | (apply w_bs0; iterate 1 exact rfl))
    refine AWp.loop (ι := Nat × Option Nat) (fun x => ⟨113, [(0, .intss xss), (3, .ints a), (5, .own 1), (6, bestA xss x.2), (7, .i x.1)]⟩) (fun _ => [.dead, .sls 38 2 (V ++ [a]), .sli 2 []]) (fun x => x.1 ≤ xss.length ∧ BestOk xss a x.1 x.2) (fun x => xss.length - x.1) (0, none) ⟨Nat.zero_le _, fun q hq => by obtain ⟨j, hj, _⟩ := hq; omega⟩ ⟨lee rfl (by (repeat (first | exact le_nil | refine le_eq rfl rfl ?_))), by (repeat (first | exact lo_nil | refine lo_dead ?_ | refine lo_eq rfl ?_)), rfl, rfl⟩ ?_
    rintro ⟨i, o⟩ ⟨j0, j1⟩
    simp only at j0 j1
    by_cases hi : i < xss.length
    · obtain ⟨p1, p2, p3⟩ := hpi i hi
      have esp := sp_succ xss i
      cases o with
      | none =>
        simp only [bestA]
        by_cases hy : geti a 1 ≤ geti (gets xss (i : Nat)) 1
        · repeat' (first | (apply AOps.nil; try simp only [List.nil_append, List.cons_append, List.set_cons_zero, List.set_cons_succ, List.length_cons, List.length_nil, Nat.reduceAdd, AV.sh, AV.sh1, AV.sh0, AO.sh, List.map_cons, List.map_nil, Nat.zero_add, Nat.add_zero, setAll]) | (apply w_move; exact rfl; exact rfl) | (apply w_assign; exact rfl; exact rfl) | apply AWp.seq | apply AWp.region | ((apply AWp.condP; exact rfl) <;> intro h) | apply AWp.block | apply AWp.exit | apply AWp.skip | (apply AWp.regionQ; kernel_rfl; kernel_rfl) | (apply w_len; exact rfl; exact rfl; first | exact .ints _ | exact .intss _ | exact .sli rfl | exact .sls rfl | exact .slr rfl | exact .orow rfl | exact .nil) | omega | ((first | apply w_lss | apply w_geq | apply w_add | apply w_idx | apply w_ld); iterate 3 exact rfl) | ((first | apply w_idxs | apply w_lds); iterate 3 exact rfl) | (apply inI_of <;> omega))
          all_goals first
            | (exfalso; omega)
            | (refine ⟨(i + 1, none), ⟨by simp only; omega, ?_⟩, by simp only; omega, ⟨lee rfl (by (repeat (first | exact le_nil | refine le_eq rfl rfl ?_))), by (repeat (first | exact lo_nil | refine lo_dead ?_ | refine lo_eq rfl ?_)), rfl, rfl⟩⟩
               simp only [BestOk, ← esp]
               rintro q (hq | rfl)
               · exact j1 q hq
               · exact hy)
        · repeat' (first | (apply AOps.nil; try simp only [List.nil_append, List.cons_append, List.set_cons_zero, List.set_cons_succ, List.length_cons, List.length_nil, Nat.reduceAdd, AV.sh, AV.sh1, AV.sh0, AO.sh, List.map_cons, List.map_nil, Nat.zero_add, Nat.add_zero, setAll]) | (apply w_move; exact rfl; exact rfl) | (apply w_assign; exact rfl; exact rfl) | apply AWp.seq | apply AWp.region | ((apply AWp.condP; exact rfl) <;> intro h) | apply AWp.block | apply AWp.exit | apply AWp.skip | (apply AWp.regionQ; kernel_rfl; kernel_rfl) | (apply w_len; exact rfl; exact rfl; first | exact .ints _ | exact .intss _ | exact .sli rfl | exact .sls rfl | exact .slr rfl | exact .orow rfl | exact .nil) | omega | ((first | apply w_lss | apply w_geq | apply w_eql | apply w_add | apply w_idx | apply w_ld); iterate 3 exact rfl) | ((first | apply w_idxs | apply w_lds); iterate 3 exact rfl) | (apply inI_of <;> omega))
          all_goals first
            | (exfalso; omega)
            | (refine ⟨(i + 1, some i), ⟨by simp only; omega, ?_⟩, by simp only; omega, ⟨lee rfl (by (repeat (first | exact le_nil | refine le_eq rfl rfl ?_))), by (repeat (first | exact lo_nil | refine lo_dead ?_ | refine lo_eq rfl ?_)), rfl, rfl⟩⟩
               simp only [BestOk, ← esp]
               exact ⟨hi, Hl.next_first j1 (by simp only [gY]; omega)⟩)
      | some k =>
        obtain ⟨j1, j2⟩ := j1
        obtain ⟨b1, b2, b3⟩ := hpi k j1
        obtain ⟨b, eb⟩ : ∃ b, b = gets xss (k : Nat) := ⟨_, rfl⟩
        simp only [bestA]
        rw [← eb] at j2 b1 b2 b3
        simp only [← eb]
        have q1 := mulPB (x := geti a 1 - geti (gets xss (i : Nat)) 1) (y := geti b 0 - geti a 0) (by omega) (by omega)
        have q2 := mulPB (x := geti a 1 - geti b 1) (y := geti (gets xss (i : Nat)) 0 - geti a 0) (by omega) (by omega)
        have ecr : Hl.cr gX gY a b (gets xss (i : Nat)) = (geti a 1 - geti b 1) * (geti (gets xss (i : Nat)) 0 - geti a 0) - (geti a 1 - geti (gets xss (i : Nat)) 1) * (geti b 0 - geti a 0) := by unfold Hl.cr; simp only [gX, gY]; grind
        by_cases hy : geti a 1 ≤ geti (gets xss (i : Nat)) 1
        · repeat' (first | (apply AOps.nil; try simp only [List.nil_append, List.cons_append, List.set_cons_zero, List.set_cons_succ, List.length_cons, List.length_nil, Nat.reduceAdd, AV.sh, AV.sh1, AV.sh0, AO.sh, List.map_cons, List.map_nil, Nat.zero_add, Nat.add_zero, setAll]) | (apply w_move; exact rfl; exact rfl) | (apply w_assign; exact rfl; exact rfl) | apply AWp.seq | apply AWp.region | ((apply AWp.condP; exact rfl) <;> intro h) | apply AWp.block | apply AWp.exit | apply AWp.skip | (apply AWp.regionQ; kernel_rfl; kernel_rfl) | (apply w_len; exact rfl; exact rfl; first | exact .ints _ | exact .intss _ | exact .sli rfl | exact .sls rfl | exact .slr rfl | exact .orow rfl | exact .nil) | omega | ((first | apply w_lss | apply w_geq | apply w_add | apply w_idx | apply w_ld); iterate 3 exact rfl) | ((first | apply w_idxs | apply w_lds); iterate 3 exact rfl) | (apply inI_of <;> omega))
          all_goals first
            | (exfalso; omega)
            | (refine ⟨(i + 1, some k), ⟨by simp only; omega, ?_⟩, by simp only; omega, by simp only [bestA, ← eb]; exact ⟨lee rfl (by (repeat (first | exact le_nil | refine le_eq rfl rfl ?_))), by (repeat (first | exact lo_nil | refine lo_dead ?_ | refine lo_eq rfl ?_)), rfl, rfl⟩⟩
               simp only [BestOk, ← esp, ← eb]
               exact ⟨j1, Hl.next_keep j2 fun hz => by simp only [gY] at hz; omega⟩)
        · by_cases hbt : (geti a 1 - geti b 1) * (geti (gets xss (i : Nat)) 0 - geti a 0) < (geti a 1 - geti (gets xss (i : Nat)) 1) * (geti b 0 - geti a 0) ∨ ((geti a 1 - geti (gets xss (i : Nat)) 1) * (geti b 0 - geti a 0) = (geti a 1 - geti b 1) * (geti (gets xss (i : Nat)) 0 - geti a 0) ∧ geti (gets xss (i : Nat)) 1 < geti b 1)
          · repeat' (first | (apply AOps.nil; try simp only [List.nil_append, List.cons_append, List.set_cons_zero, List.set_cons_succ, List.length_cons, List.length_nil, Nat.reduceAdd, AV.sh, AV.sh1, AV.sh0, AO.sh, List.map_cons, List.map_nil, Nat.zero_add, Nat.add_zero, setAll]) | ((apply AOps.splitP; exact rfl; exact rfl) <;> intro h) | (apply w_move; exact rfl; exact rfl) | (apply w_assign; exact rfl; exact rfl) | apply AWp.seq | apply AWp.region | ((apply AWp.condP; exact rfl) <;> intro h) | (apply AWp.condT; exact rfl) | (apply AWp.condF; exact rfl) | apply AWp.block | apply AWp.exit | apply AWp.skip | (apply AWp.regionQ; kernel_rfl; kernel_rfl) | (apply w_skip; exact rfl) | (apply w_pickT; exact rfl; exact rfl; exact rfl) | (apply w_pickF; exact rfl; exact rfl; exact rfl) | (apply w_len; exact rfl; exact rfl; first | exact .ints _ | exact .intss _ | exact .sli rfl | exact .sls rfl | exact .slr rfl | exact .orow rfl | exact .nil) | omega | ((first | apply w_lss | apply w_gtr | apply w_geq | apply w_eql | apply w_add | apply w_sub | apply w_mul | apply w_idx | apply w_ld); iterate 3 exact rfl) | ((first | apply w_idxs | apply w_lds); iterate 3 exact rfl) | (apply inI_of <;> omega))
            all_goals first
              | (exfalso; omega)
              | (refine ⟨(i + 1, some i), ⟨by simp only; omega, ?_⟩, by simp only; omega, by simp only [bestA]; exact ⟨lee rfl (by (repeat (first | exact le_nil | refine le_eq rfl rfl ?_))), by (repeat (first | exact lo_nil | refine lo_dead ?_ | refine lo_eq rfl ?_)), rfl, rfl⟩⟩
                 simp only [BestOk, ← esp]
                 exact ⟨hi, Hl.next_new j2 (by simp only [gY]; omega) (by rw [ecr]; simp only [gY]; omega)⟩)
          · repeat' (first | (apply AOps.nil; try simp only [List.nil_append, List.cons_append, List.set_cons_zero, List.set_cons_succ, List.length_cons, List.length_nil, Nat.reduceAdd, AV.sh, AV.sh1, AV.sh0, AO.sh, List.map_cons, List.map_nil, Nat.zero_add, Nat.add_zero, setAll]) | ((apply AOps.splitP; exact rfl; exact rfl) <;> intro h) | (apply w_move; exact rfl; exact rfl) | (apply w_assign; exact rfl; exact rfl) | apply AWp.seq | apply AWp.region | ((apply AWp.condP; exact rfl) <;> intro h) | (apply AWp.condT; exact rfl) | (apply AWp.condF; exact rfl) | apply AWp.block | apply AWp.exit | apply AWp.skip | (apply AWp.regionQ; kernel_rfl; kernel_rfl) | (apply w_skip; exact rfl) | (apply w_pickT; exact rfl; exact rfl; exact rfl) | (apply w_pickF; exact rfl; exact rfl; exact rfl) | (apply w_len; exact rfl; exact rfl; first | exact .ints _ | exact .intss _ | exact .sli rfl | exact .sls rfl | exact .slr rfl | exact .orow rfl | exact .nil) | omega | ((first | apply w_lss | apply w_gtr | apply w_geq | apply w_eql | apply w_add | apply w_sub | apply w_mul | apply w_idx | apply w_ld); iterate 3 exact rfl) | ((first | apply w_idxs | apply w_lds); iterate 3 exact rfl) | (apply inI_of <;> omega))
            all_goals first
              | (exfalso; omega)
              | (refine ⟨(i + 1, some k), ⟨by simp only; omega, ?_⟩, by simp only; omega, by simp only [bestA, ← eb]; exact ⟨lee rfl (by (repeat (first | exact le_nil | refine le_eq rfl rfl ?_))), by (repeat (first | exact lo_nil | refine lo_dead ?_ | refine lo_eq rfl ?_)), rfl, rfl⟩⟩
                 simp only [BestOk, ← esp, ← eb]
                 exact ⟨j1, Hl.next_keep j2 fun hz => by rw [ecr]; simp only [gY]; omega⟩)
    · have e : i = xss.length := by omega
      subst e
      cases o with
      | none =>
        simp only [bestA]
        repeat' (first | (apply AOps.nil; try simp only [List.nil_append, List.cons_append, List.set_cons_zero, List.set_cons_succ, List.length_cons, List.length_nil, Nat.reduceAdd, AV.sh, AV.sh1, AV.sh0, AO.sh, List.map_cons, List.map_nil, Nat.zero_add, Nat.add_zero, setAll]) | (apply w_move; exact rfl; exact rfl) | (apply w_assign; exact rfl; exact rfl) | apply AWp.seq | apply AWp.region | ((apply AWp.condP; exact rfl) <;> intro h) | apply AWp.block | apply AWp.ret | apply AWp.exit | apply AWp.skip | (apply w_len; exact rfl; exact rfl; first | exact .ints _ | exact .intss _ | exact .sli rfl | exact .sls rfl | exact .slr rfl | exact .orow rfl | exact .nil) | omega | ((first | apply w_lss | apply w_eql); iterate 3 exact rfl))
        exact ⟨_, _, _, .v1 Try.results39 rfl, .sls rfl, rfl, by rw [verts_eq (fun r hr => (hp r hr).1) (i2.done fun q hq => j1 q ((sp_all xss q).2 hq))]⟩
      | some k =>
        obtain ⟨j1, j2⟩ := j1
        obtain ⟨b1, b2, b3⟩ := hpi k j1
        have hn : Hl.isNext gX gY (· ∈ xss) a (gets xss (k : Nat)) := by
          have : Sp xss xss.length = (· ∈ xss) := funext fun q => propext (sp_all xss q)
          rw [← this]; exact j2
        have hlt := hn.2.1
        simp only [gY] at hlt i3
        simp only [bestA]
        have hown := l01Own_c (gets xss (k : Nat)) (by omega)
        have el : (V ++ [a]).length = V.length + 1 := by simp
        repeat' (first | (apply AOps.nil; try simp only [List.nil_append, List.cons_append, List.set_cons_zero, List.set_cons_succ, List.length_cons, List.length_nil, Nat.reduceAdd, AV.sh, AV.sh1, AV.sh0, AO.sh, List.map_cons, List.map_nil, Nat.zero_add, Nat.add_zero, setAll]) | (apply w_move; exact rfl; exact rfl) | (apply w_assign; exact rfl; exact rfl) | apply AWp.seq | apply AWp.region | ((apply AWp.condP; exact rfl) <;> intro h) | apply AWp.block | apply AWp.ret | apply AWp.exit | apply AWp.skip | (apply w_len; exact rfl; exact rfl; first | exact .ints _ | exact .intss _ | exact .sli rfl | exact .sls rfl | exact .slr rfl | exact .orow rfl | exact .nil) | ((first | apply w_bsr1 | apply w_lss | apply w_eql | apply w_idx); iterate 3 exact rfl) | (apply w_appr; exact rfl; exact rfl; exact rfl; exact rfl; exact rfl; exact rfl; exact rfl; rotate_left 1; simp only [Env.mp, List.map_cons, List.map_nil, List.set_cons_zero, List.set_cons_succ, AV.kill, AV.kill1, AO.kill, AV.rin, AV.rin1, AV.noRow, AV.noRow1, AO.via, reduceIte, Nat.reduceEqDiff, Nat.reduceLT, Env.up, Nat.zero_ne_one, Nat.one_ne_zero, Nat.reduceAdd, List.cons_append, List.nil_append]; rotate_left 1) | (apply w_callm (hown); (focus ((repeat (first | exact im_nil | refine im_cons rfl (.ints _) ?_)); done)); rintro r os0 ⟨rfl, rfl⟩; try simp only [List.nil_append, List.cons_append, List.set_cons_zero, List.set_cons_succ, List.length_cons, List.length_nil, Nat.reduceAdd, AV.sh, AV.sh1, AV.sh0, AO.sh, List.map_cons, List.map_nil, Nat.zero_add, Nat.add_zero, setAll]) | omega)
        exact ⟨(V ++ [a], k), ⟨j1, i2.step hn, by simp only [gY, el]; omega⟩, by simp only [gY, ← ea]; omega, ⟨lee rfl (by (repeat (first | exact le_nil | refine le_eq rfl rfl ?_))), by (repeat (first | exact lo_nil | refine lo_dead ?_ | refine lo_eq rfl ?_)), rfl, rfl⟩⟩
end Go.Proofs.Ythlfdhooiekgjaa
/-
  Edges put together by their ratios: the chain of the vertices is the hull of all sums of some edges. No condition.
-/
namespace Go.Proofs.Ythlfdhooiekgjaa
open Go Go.RowKit
open Hl (cr lexle GW GWf isNext)

/-- The sum of a number over a list of rows. -/
def sS (F : List Int → Int) : List (List Int) → Int
  | [] => 0
  | e :: L => F e + sS F L
theorem sS_append (F : List Int → Int) : ∀ A B, sS F (A ++ B) = sS F A + sS F B
  | [], B => by simp [sS]
  | a :: A, B => by rw [List.cons_append, sS, sS, sS_append F A B]; omega
theorem sS_perm (F : List Int → Int) {A B : List (List Int)} (h : A.Perm B) : sS F A = sS F B := by
  induction h with
  | nil => rfl
  | cons x _ ih => rw [sS, sS, ih]
  | swap x y l => rw [sS, sS, sS, sS]; omega
  | trans _ _ h1 h2 => rw [h1, h2]
theorem sS_nonneg {F : List Int → Int} : ∀ {A : List (List Int)}, (∀ e ∈ A, 0 ≤ F e) → 0 ≤ sS F A
  | [], _ => Int.le_refl _
  | a :: A, h => by
    have h1 := h a (by simp)
    have h2 := sS_nonneg (A := A) fun e he => h e (by simp [he])
    rw [sS]; omega
theorem sS_le {F G : List Int → Int} : ∀ {A : List (List Int)}, (∀ e ∈ A, F e ≤ G e) → sS F A ≤ sS G A
  | [], _ => Int.le_refl _
  | a :: A, h => by
    have h1 := h a (by simp)
    have h2 := sS_le (A := A) fun e he => h e (by simp [he])
    rw [sS, sS]; omega
theorem sS_zero {F : List Int → Int} : ∀ {A : List (List Int)}, (∀ e ∈ A, 0 ≤ F e) → sS F A = 0 → ∀ e ∈ A, F e = 0
  | [], _, _ => by simp
  | a :: A, h, hz => by
    have h1 := h a (by simp)
    have h2 := sS_nonneg (A := A) fun e he => h e (by simp [he])
    rw [sS] at hz
    intro e he
    rcases List.mem_cons.1 he with rfl | he
    · omega
    · exact sS_zero (fun e he => h e (by simp [he])) (by omega) e he
theorem sS_congr {F G : List Int → Int} {A : List (List Int)} (h : ∀ e ∈ A, F e = G e) : sS F A = sS G A :=
  Int.le_antisymm (sS_le fun e he => by rw [h e he]; exact Int.le_refl _) (sS_le fun e he => by rw [h e he]; exact Int.le_refl _)
theorem sS_add (F G : List Int → Int) : ∀ A, sS (fun e => F e + G e) A = sS F A + sS G A
  | [] => by simp [sS]
  | a :: A => by rw [sS, sS, sS, sS_add F G A]; omega
theorem sS_mul (c : Int) (F : List Int → Int) : ∀ A, sS (fun e => c * F e) A = c * sS F A
  | [] => by simp [sS]
  | a :: A => by rw [sS, sS, sS_mul c F A, Int.mul_add]

/-- How much less steep e is than l: its sign. -/
def wS (l e : List Int) : Int := geti l 1 * geti e 0 - geti l 0 * geti e 1
def EP (e : List Int) : Prop := e.length = 2 ∧ (1 ≤ geti e 0 ∧ geti e 0 ≤ 100000) ∧ (1 ≤ geti e 1 ∧ geti e 1 ≤ 100000)
def E0 (e : List Int) : Int := geti e 0
def E1 (e : List Int) : Int := geti e 1
def cut (p : Int → Bool) (l : List Int) (F : List Int → Int) (e : List Int) : Int := if p (wS l e) then F e else 0
def le0 (x : Int) : Bool := decide (x ≤ 0)
def lt0 (x : Int) : Bool := decide (x < 0)
theorem cut_le (l : List Int) (F : List Int → Int) (e : List Int) : cut le0 l F e = if wS l e ≤ 0 then F e else 0 := by simp [cut, le0]
theorem cut_lt (l : List Int) (F : List Int → Int) (e : List Int) : cut lt0 l F e = if wS l e < 0 then F e else 0 := by simp [cut, lt0]

/-- L: the edges of xss, those of one ratio added up, the steepest first. -/
structure JoinOf (xss L : List (List Int)) : Prop where
  pos : ∀ l ∈ L, l.length = 2 ∧ 1 ≤ geti l 0 ∧ 1 ≤ geti l 1
  tot : sS E0 L = sS E0 xss ∧ sS E1 L = sS E1 xss
  at_ : ∀ A l B, L = A ++ l :: B → sS E0 A = sS (cut lt0 l E0) xss ∧ sS E1 A = sS (cut lt0 l E1) xss ∧ sS E0 A + E0 l = sS (cut le0 l E0) xss ∧ sS E1 A + E1 l = sS (cut le0 l E1) xss

/-- The points of a chain. -/
def vfP (p : List Int) : List (List Int) → List (List Int)
  | [] => [p]
  | l :: L => p :: vfP [geti p 0 + geti l 0, geti p 1 - geti l 1] L
theorem vfP_ne (p : List Int) (L : List (List Int)) : ∃ r, vfP p L = p :: r := by cases L <;> exact ⟨_, rfl⟩

/-- A point: the first one and some of the edges. -/
def SelP (xss : List (List Int)) (p q : List Int) : Prop := ∃ T U, (T ++ U).Perm xss ∧ geti q 0 = geti p 0 + sS E0 T ∧ geti q 1 = geti p 1 - sS E1 T

theorem sel_cr {xss : List (List Int)} (hx : ∀ e ∈ xss, EP e) {p a b q l : List Int} (hq : SelP xss p q)
    (ha0 : geti a 0 = geti p 0 + sS (cut lt0 l E0) xss) (ha1 : geti a 1 = geti p 1 - sS (cut lt0 l E1) xss) (hb0 : geti b 0 = geti a 0 + geti l 0) (hb1 : geti b 1 = geti a 1 - geti l 1) (hbl : geti b 1 = geti p 1 - sS (cut le0 l E1) xss) :
    0 ≤ cr gX gY a b q ∧ (cr gX gY a b q = 0 → gY b ≤ gY q) := by
  obtain ⟨T, U, hp, q0, q1⟩ := hq
  have hT : ∀ e ∈ T, EP e := fun e he => hx e (hp.mem_iff.1 (List.mem_append.2 (.inl he)))
  have hU : ∀ e ∈ U, EP e := fun e he => hx e (hp.mem_iff.1 (List.mem_append.2 (.inr he)))
  have s0 : sS (cut lt0 l E0) xss = sS (cut lt0 l E0) T + sS (cut lt0 l E0) U := by rw [← sS_perm _ hp, sS_append]
  have s1 : sS (cut lt0 l E1) xss = sS (cut lt0 l E1) T + sS (cut lt0 l E1) U := by rw [← sS_perm _ hp, sS_append]
  have s2 : sS (cut le0 l E1) xss = sS (cut le0 l E1) T + sS (cut le0 l E1) U := by rw [← sS_perm _ hp, sS_append]
  have hw : ∀ A, sS (wS l) A = geti l 1 * sS E0 A - geti l 0 * sS E1 A := fun A => by
    rw [← sS_mul, ← sS_mul]
    have := sS_add (fun e => wS l e) (fun e => geti l 0 * E1 e) A
    have h2 : sS (fun e => wS l e + geti l 0 * E1 e) A = sS (fun e => geti l 1 * E0 e) A := sS_congr fun e _ => by simp only [wS, E0, E1]; omega
    rw [h2] at this
    have h3 : sS (wS l) A = sS (fun e => wS l e) A := rfl
    omega
  have hc : ∀ A, sS (cut lt0 l (wS l)) A = geti l 1 * sS (cut lt0 l E0) A - geti l 0 * sS (cut lt0 l E1) A := fun A => by
    rw [← sS_mul, ← sS_mul]
    have := sS_add (fun e => cut lt0 l (wS l) e) (fun e => geti l 0 * cut lt0 l E1 e) A
    have h2 : sS (fun e => cut lt0 l (wS l) e + geti l 0 * cut lt0 l E1 e) A = sS (fun e => geti l 1 * cut lt0 l E0 e) A := sS_congr fun e _ => by
      simp only [cut_lt]; split
      · simp only [wS, E0, E1]; omega
      · simp
    rw [h2] at this
    have h3 : sS (cut lt0 l (wS l)) A = sS (fun e => cut lt0 l (wS l) e) A := rfl
    omega
  have key : cr gX gY a b q = sS (wS l) T - sS (cut lt0 l (wS l)) T - sS (cut lt0 l (wS l)) U := by
    rw [hw T, hc T, hc U]
    unfold cr
    simp only [gX, gY]
    rw [hb0, hb1, q0, q1, ha0, ha1, s0, s1]
    grind
  have k1 : sS (cut lt0 l (wS l)) T ≤ sS (wS l) T := sS_le fun e _ => by rw [cut_lt]; split <;> omega
  have k2 : 0 ≤ sS (fun e => -1 * cut lt0 l (wS l) e) U := sS_nonneg fun e _ => by rw [cut_lt]; split <;> omega
  have k3 := sS_mul (-1) (cut lt0 l (wS l)) U
  refine ⟨by omega, fun hz => ?_⟩
  have d1 : sS (fun e => wS l e + -1 * cut lt0 l (wS l) e) T = 0 := by
    rw [sS_add, sS_mul]
    have h3 : sS (wS l) T = sS (fun e => wS l e) T := rfl
    omega
  have d2 := sS_zero (fun e _ => by rw [cut_lt]; split <;> omega) d1
  have m1 : sS E1 T ≤ sS (cut le0 l E1) T := sS_le fun e he => by
    have := d2 e he
    rw [cut_lt] at this
    rw [cut_le]
    split at this
    · rw [if_pos (by omega)]; exact Int.le_refl _
    · rw [if_pos (by omega)]; exact Int.le_refl _
  have m2 : 0 ≤ sS (cut le0 l E1) U := sS_nonneg fun e he => by
    rw [cut_le]; split
    · have := (hU e he).2.2; simp only [E1]; omega
    · omega
  show geti b 1 ≤ geti q 1
  omega
theorem sel_le {xss : List (List Int)} (hx : ∀ e ∈ xss, EP e) {p q : List Int} (hq : SelP xss p q) : geti p 0 ≤ geti q 0 ∧ geti q 1 ≤ geti p 1 ∧ geti p 1 - sS E1 xss ≤ geti q 1 ∧ (geti p 0 = geti q 0 → geti q 1 = geti p 1) := by
  obtain ⟨T, U, hp, q0, q1⟩ := hq
  have hT : ∀ e ∈ T, EP e := fun e he => hx e (hp.mem_iff.1 (List.mem_append.2 (.inl he)))
  have hU : ∀ e ∈ U, EP e := fun e he => hx e (hp.mem_iff.1 (List.mem_append.2 (.inr he)))
  have n0 : 0 ≤ sS E0 T := sS_nonneg fun e he => by have := (hT e he).2.1; simp only [E0]; omega
  have n1 : 0 ≤ sS E1 T := sS_nonneg fun e he => by have := (hT e he).2.2; simp only [E1]; omega
  have n2 : 0 ≤ sS E1 U := sS_nonneg fun e he => by have := (hU e he).2.2; simp only [E1]; omega
  have s1 : sS E1 xss = sS E1 T + sS E1 U := by rw [← sS_perm _ hp, sS_append]
  refine ⟨by omega, by omega, by omega, fun h => ?_⟩
  have z : sS E0 T = 0 := by omega
  have hz := sS_zero (fun e he => by have := (hT e he).2.1; simp only [E0]; omega) z
  have : sS E1 T = 0 := by
    cases T with
    | nil => rfl
    | cons e T => have a := hz e (by simp); have b := (hT e (by simp)).2.1; simp only [E0] at a; omega
  omega

theorem vf_gwf {xss : List (List Int)} (hx : ∀ e ∈ xss, EP e) {S : List Int → Prop} {p : List Int} (hS : ∀ q, S q → SelP xss p q) :
    ∀ (B A : List (List Int)) (a : List Int), JoinOf xss (A ++ B) → geti a 0 = geti p 0 + sS E0 A → geti a 1 = geti p 1 - sS E1 A →
      (∀ b ∈ vfP a B, S b) → GWf gX gY S (vfP a B)
  | [], A, a, hJ, a0, a1, hm => by
    rw [List.append_nil] at hJ
    intro q hq
    have := (sel_le hx (hS q hq)).2.2.1
    show geti a 1 ≤ geti q 1
    have := hJ.tot.2
    omega
  | l :: B, A, a, hJ, a0, a1, hm => by
    have hl := hJ.pos l (by simp)
    obtain ⟨j0, j1, j2, j3⟩ := hJ.at_ A l B rfl
    obtain ⟨r, hr⟩ := vfP_ne [geti a 0 + geti l 0, geti a 1 - geti l 1] B
    have hb : S [geti a 0 + geti l 0, geti a 1 - geti l 1] := hm _ (by rw [vfP, hr]; simp)
    have rec_ := vf_gwf hx hS B (A ++ [l]) [geti a 0 + geti l 0, geti a 1 - geti l 1] (by rw [List.append_assoc]; exact hJ)
      (by rw [sS_append]; simp only [sS, E0, geti]; simp [geti] at *; omega) (by rw [sS_append]; simp only [sS, E1, geti]; simp [geti] at *; omega) (fun b hb' => hm b (by rw [vfP]; simp [hb']))
    rw [vfP, hr]
    rw [hr] at rec_
    refine ⟨⟨hb, ?_, fun q hq hy => ?_⟩, rec_⟩
    · show geti [geti a 0 + geti l 0, geti a 1 - geti l 1] 1 < geti a 1
      simp [geti] at *; omega
    · refine sel_cr (l := l) hx (hS q hq) (by omega) (by omega) (by simp [geti]) (by simp [geti]) ?_
      simp only [E1] at j3
      have : geti [geti a 0 + geti l 0, geti a 1 - geti l 1] 1 = geti a 1 - geti l 1 := by simp [geti]
      rw [this]; omega
/-- The chain is the hull. -/
theorem vf_has {xss zss L : List (List Int)} (hx : ∀ e ∈ xss, EP e) {p : List Int} (hJ : JoinOf xss L) (hS : ∀ q ∈ zss, SelP xss p q) (hm : ∀ b ∈ vfP p L, b ∈ zss) : HasV zss (vfP p L) := by
  obtain ⟨r, hr⟩ := vfP_ne p L
  have hg := vf_gwf hx (S := (· ∈ zss)) hS L [] p hJ (by simp [sS]) (by simp [sS]) hm
  rw [hr] at hg ⊢
  refine ⟨p, r, rfl, hm p (by rw [hr]; simp), fun q hq => ?_, hg⟩
  have := sel_le hx (hS q hq)
  unfold lexle
  simp only [gX, gY]
  omega
end Go.Proofs.Ythlfdhooiekgjaa
/-
  Edges put together one after the other, in the order of their ratios. No condition.
-/
namespace Go.Proofs.Ythlfdhooiekgjaa
open Go Go.RowKit

theorem wS_tr (a b c : List Int) : geti b 1 * wS a c = geti c 1 * wS a b + geti a 1 * wS b c := by unfold wS; grind
theorem wS_self (a : List Int) : wS a a = 0 := by unfold wS; grind
theorem wS_neg (a b : List Int) : wS b a = -wS a b := by unfold wS; grind
theorem wS_le {a b c : List Int} (ha : 1 ≤ geti a 1) (hb : 1 ≤ geti b 1) (hc : 1 ≤ geti c 1) (h1 : 0 ≤ wS a b) (h2 : 0 ≤ wS b c) : 0 ≤ wS a c := by
  have e := wS_tr a b c
  have p := Int.mul_nonneg (show 0 ≤ geti c 1 by omega) h1
  have q := Int.mul_nonneg (show 0 ≤ geti a 1 by omega) h2
  apply Classical.byContradiction
  intro hn
  have := Int.mul_pos (show 0 < geti b 1 by omega) (show 0 < -wS a c by omega)
  grind
theorem wS_lt1 {a b c : List Int} (ha : 1 ≤ geti a 1) (hb : 1 ≤ geti b 1) (hc : 1 ≤ geti c 1) (h1 : 0 < wS a b) (h2 : 0 ≤ wS b c) : 0 < wS a c := by
  have e := wS_tr a b c
  have p := Int.mul_pos (show 0 < geti c 1 by omega) h1
  have q := Int.mul_nonneg (show 0 ≤ geti a 1 by omega) h2
  apply Classical.byContradiction
  intro hn
  have := Int.mul_nonneg (show 0 ≤ geti b 1 by omega) (show 0 ≤ -wS a c by omega)
  grind
theorem wS_lt2 {a b c : List Int} (ha : 1 ≤ geti a 1) (hb : 1 ≤ geti b 1) (hc : 1 ≤ geti c 1) (h1 : 0 ≤ wS a b) (h2 : 0 < wS b c) : 0 < wS a c := by
  have e := wS_tr a b c
  have p := Int.mul_nonneg (show 0 ≤ geti c 1 by omega) h1
  have q := Int.mul_pos (show 0 < geti a 1 by omega) h2
  apply Classical.byContradiction
  intro hn
  have := Int.mul_nonneg (show 0 ≤ geti b 1 by omega) (show 0 ≤ -wS a c by omega)
  grind
/-- Two of one ratio, added. -/
def plE (l e : List Int) : List Int := [geti l 0 + geti e 0, geti l 1 + geti e 1]
theorem plE_0 (l e : List Int) : geti (plE l e) 0 = geti l 0 + geti e 0 := rfl
theorem plE_1 (l e : List Int) : geti (plE l e) 1 = geti l 1 + geti e 1 := rfl
theorem wS_pl (a l e : List Int) : wS a (plE l e) = wS a l + wS a e := by unfold wS; rw [plE_0, plE_1]; grind
theorem wS_pl' {l e : List Int} (hl : 1 ≤ geti l 1) (he : 1 ≤ geti e 1) (h : wS l e = 0) (x : List Int) : (wS (plE l e) x < 0 ↔ wS l x < 0) ∧ (wS (plE l e) x ≤ 0 ↔ wS l x ≤ 0) := by
  have e1 : geti l 1 * wS (plE l e) x = (geti l 1 + geti e 1) * wS l x := by
    have h' := h
    unfold wS at h' ⊢
    rw [plE_0, plE_1]
    grind
  have key : ∀ (u v p q : Int), 0 < p → 0 < q → p * u = q * v → ((u < 0 ↔ v < 0) ∧ (u ≤ 0 ↔ v ≤ 0)) := by
    intro u v p q hp hq he
    rcases Int.lt_trichotomy v 0 with h | h | h
    · have : u < 0 := by
        apply Classical.byContradiction; intro hn
        have a := Int.mul_nonneg (show 0 ≤ p by omega) (show 0 ≤ u by omega)
        have b := Int.mul_pos hq (show 0 < -v by omega)
        grind
      omega
    · subst h
      have : u = 0 := by
        rw [Int.mul_zero] at he
        rcases Int.mul_eq_zero.1 he with h | h <;> omega
      omega
    · have : 0 < u := by
        apply Classical.byContradiction; intro hn
        have a := Int.mul_nonneg (show 0 ≤ p by omega) (show 0 ≤ -u by omega)
        have b := Int.mul_pos hq h
        grind
      omega
  exact key _ _ _ _ (by omega) (by omega) e1

/-- What is known while the edges are put together. -/
structure JI (Y L : List (List Int)) : Prop where
  join : JoinOf Y L
  none : Y = [] → L = []
  asc : ∀ A l B, L = A ++ l :: B → ∀ a ∈ A, 0 < wS a l
  last : Y ≠ [] → ∃ A l, L = A ++ [l] ∧ (∀ y ∈ Y, 0 ≤ wS y l) ∧ ∃ y ∈ Y, wS l y = 0
theorem JI.nil : JI [] [] := ⟨⟨by simp, ⟨rfl, rfl⟩, fun A l B h => by simp at h⟩, fun _ => rfl, fun A l B h => by simp at h, fun h => absurd rfl h⟩
theorem app_cases {A B C : List (List Int)} {x y : List Int} (h : A ++ [x] = B ++ y :: C) : (C = [] ∧ B = A ∧ y = x) ∨ ∃ D, A = B ++ y :: D ∧ C = D ++ [x] := by
  rcases List.eq_nil_or_concat C with rfl | ⟨D, z, rfl⟩
  · left
    have := List.append_inj' h rfl
    exact ⟨rfl, this.1.symm, by simpa using this.2.symm⟩
  · right
    rw [List.concat_eq_append] at h ⊢
    rw [show B ++ y :: (D ++ [z]) = (B ++ y :: D) ++ [z] by simp] at h
    have := List.append_inj' h rfl
    exact ⟨D, this.1, by simpa using this.2.symm⟩
theorem sS_snoc (F : List Int → Int) (Y : List (List Int)) (e : List Int) : sS F (Y ++ [e]) = sS F Y + F e := by rw [sS_append]; simp [sS]
/-- One more of the last ratio. -/
theorem JI.same {Y A : List (List Int)} {l e : List Int} (h : JI Y (A ++ [l])) (hne : Y ≠ []) (he : EP e) (hs : ∀ y ∈ Y, 0 ≤ wS y e) (hz : wS l e = 0) : JI (Y ++ [e]) (A ++ [plE l e]) := by
  have hl := h.join.pos l (by simp)
  have asc : ∀ a ∈ A, 0 < wS a l := h.asc A l [] rfl
  have hA : ∀ a ∈ A, 1 ≤ geti a 1 := fun a ha => (h.join.pos a (by simp [ha])).2.2
  have aE : ∀ a ∈ A, 0 < wS a e := fun a ha => wS_lt1 (hA a ha) hl.2.2 (by have := he.2.2; omega) (asc a ha) (by omega)
  have cl : ∀ F x, cut lt0 (plE l e) F x = cut lt0 l F x := fun F x => by
    rw [cut_lt, cut_lt]
    have := (wS_pl' hl.2.2 he.2.2.1 hz x).1
    simp only [this]
  have cl2 : ∀ F x, cut le0 (plE l e) F x = cut le0 l F x := fun F x => by
    rw [cut_le, cut_le]
    have := (wS_pl' hl.2.2 he.2.2.1 hz x).2
    simp only [this]
  refine ⟨⟨?_, ?_, ?_⟩, by simp, ?_, fun _ => ⟨A, plE l e, rfl, ?_, e, by simp, ?_⟩⟩
  · intro x hx
    rcases List.mem_append.1 hx with hx | hx
    · exact h.join.pos x (by simp [hx])
    · simp only [List.mem_singleton] at hx
      subst hx
      have := he.2.1; have := he.2.2
      exact ⟨rfl, by rw [plE_0]; omega, by rw [plE_1]; omega⟩
  · have := h.join.tot
    rw [sS_snoc, sS_snoc] at this ⊢
    rw [sS_snoc, sS_snoc]
    simp only [E0, E1] at *
    rw [plE_0, plE_1]; omega
  · intro B x C hB
    rcases app_cases hB with ⟨rfl, rfl, rfl⟩ | ⟨D, rfl, rfl⟩
    · obtain ⟨j0, j1, j2, j3⟩ := h.join.at_ B l [] rfl
      simp only [sS_snoc]
      have z1 : ∀ F, cut lt0 l F e = 0 := fun F => by rw [cut_lt, if_neg (by omega)]
      have z2 : ∀ F, cut le0 l F e = F e := fun F => by rw [cut_le, if_pos (by omega)]
      have f1 : ∀ F, sS (cut lt0 (plE l e) F) Y = sS (cut lt0 l F) Y := fun F => sS_congr fun x _ => cl F x
      have f2 : ∀ F, sS (cut le0 (plE l e) F) Y = sS (cut le0 l F) Y := fun F => sS_congr fun x _ => cl2 F x
      rw [f1, f1, f2, f2, cl, cl, cl2, cl2, z1, z1, z2, z2]
      simp only [E0, E1] at *
      rw [plE_0, plE_1]; omega
    · obtain ⟨j0, j1, j2, j3⟩ := h.join.at_ B x (D ++ [l]) (by simp)
      have hx := aE x (by simp)
      simp only [sS_snoc]
      have z1 : ∀ F, cut lt0 x F e = 0 := fun F => by rw [cut_lt, if_neg (by omega)]
      have z2 : ∀ F, cut le0 x F e = 0 := fun F => by rw [cut_le, if_neg (by omega)]
      rw [z1, z1, z2, z2]; omega
  · intro B x C hB a ha
    rcases app_cases hB with ⟨rfl, rfl, rfl⟩ | ⟨D, rfl, rfl⟩
    · rw [wS_pl]
      have := asc a ha; have := aE a ha; omega
    · exact h.asc B x (D ++ [l]) (by simp) a ha
  · intro y hy
    rw [wS_pl]
    rcases List.mem_append.1 hy with hy | hy
    · obtain ⟨A', l', e1, e2, _⟩ := h.last hne
      have := List.append_inj' e1 rfl
      have : l = l' := by simpa using this.2
      subst this
      have := e2 y hy; have := hs y hy; omega
    · simp only [List.mem_singleton] at hy
      subst hy
      rw [wS_self, wS_neg, hz]; omega
  · have := (wS_pl' hl.2.2 he.2.2.1 hz e)
    omega
/-- One of a ratio that is less steep. -/
theorem JI.push {Y L : List (List Int)} {e : List Int} (h : JI Y L) (hY : ∀ y ∈ Y, EP y) (he : EP e) (hs : ∀ y ∈ Y, 0 ≤ wS y e) (hz : ∀ A l, L = A ++ [l] → wS l e ≠ 0) : JI (Y ++ [e]) (L ++ [e]) := by
  have he1 : 1 ≤ geti e 1 := he.2.2.1
  have hall : (∀ l ∈ L, 0 < wS l e) ∧ ∀ y ∈ Y, 0 < wS y e := by
    by_cases hne : Y = []
    · have := h.none hne
      subst hne; subst this
      simp
    · obtain ⟨A, l, rfl, e2, y0, hy0, e3⟩ := h.last hne
      have hl := h.join.pos l (by simp)
      have hy1 := (hY y0 hy0).2.2.1
      have p1 : 0 ≤ wS l e := wS_le hl.2.2 hy1 he1 (by omega) (hs y0 hy0)
      have p2 : 0 < wS l e := by have := hz A l rfl; omega
      refine ⟨fun x hx => ?_, fun y hy => ?_⟩
      · rcases List.mem_append.1 hx with hx | hx
        · exact wS_lt1 (h.join.pos x (by simp [hx])).2.2 hl.2.2 he1 (h.asc A l [] rfl x hx) (by omega)
        · simp only [List.mem_singleton] at hx; subst hx; exact p2
      · exact wS_lt2 (hY y hy).2.2.1 hl.2.2 he1 (e2 y hy) p2
  refine ⟨⟨?_, ?_, ?_⟩, by simp, ?_, fun _ => ⟨L, e, rfl, ?_, e, by simp, wS_self e⟩⟩
  · intro x hx
    rcases List.mem_append.1 hx with hx | hx
    · exact h.join.pos x hx
    · simp only [List.mem_singleton] at hx
      subst hx
      exact ⟨he.1, he.2.1.1, he.2.2.1⟩
  · have := h.join.tot
    rw [sS_snoc, sS_snoc, sS_snoc, sS_snoc]; omega
  · intro B x C hB
    rcases app_cases hB with ⟨rfl, rfl, rfl⟩ | ⟨D, rfl, rfl⟩
    · have hn : ∀ y ∈ Y, wS x y < 0 := fun y hy => by have := hall.2 y hy; rw [wS_neg] at this; omega
      have f1 : ∀ F, sS (cut lt0 x F) Y = sS F Y := fun F => sS_congr fun y hy => by rw [cut_lt, if_pos (hn y hy)]
      have f2 : ∀ F, sS (cut le0 x F) Y = sS F Y := fun F => sS_congr fun y hy => by rw [cut_le, if_pos (by have := hn y hy; omega)]
      have z1 : ∀ F, cut lt0 x F x = 0 := fun F => by rw [cut_lt, wS_self, if_neg (by omega)]
      have z2 : ∀ F, cut le0 x F x = F x := fun F => by rw [cut_le, wS_self, if_pos (by omega)]
      simp only [sS_snoc]
      rw [f1, f1, f2, f2, z1, z1, z2, z2]
      have := h.join.tot
      omega
    · obtain ⟨j0, j1, j2, j3⟩ := h.join.at_ B x D rfl
      have hx := hall.1 x (by simp)
      simp only [sS_snoc]
      have z1 : ∀ F, cut lt0 x F e = 0 := fun F => by rw [cut_lt, if_neg (by omega)]
      have z2 : ∀ F, cut le0 x F e = 0 := fun F => by rw [cut_le, if_neg (by omega)]
      rw [z1, z1, z2, z2]; omega
  · intro B x C hB a ha
    rcases app_cases hB with ⟨rfl, rfl, rfl⟩ | ⟨D, rfl, rfl⟩
    · exact hall.1 a ha
    · exact h.asc B x D rfl a ha
  · intro y hy
    rcases List.mem_append.1 hy with hy | hy
    · exact hs y hy
    · simp only [List.mem_singleton] at hy; subst hy; rw [wS_self]; omega
theorem JoinOf.perm {X Y L : List (List Int)} (h : JoinOf X L) (hp : X.Perm Y) : JoinOf Y L :=
  ⟨h.pos, by rw [← sS_perm _ hp, ← sS_perm _ hp]; exact h.tot, fun A l B hL => by rw [← sS_perm _ hp, ← sS_perm _ hp, ← sS_perm _ hp, ← sS_perm _ hp]; exact h.at_ A l B hL⟩
end Go.Proofs.Ythlfdhooiekgjaa
/-
  Chains of sorted edges: the corners of the joined chain lie on the chain of the sorted ones. No condition.
-/
namespace Go.Proofs.Ythlfdhooiekgjaa
open Go Go.RowKit

theorem vfP_row {L : List (List Int)} : ∀ {p : List Int}, p.length = 2 → ∀ q ∈ vfP p L, q.length = 2 := by
  induction L with
  | nil => intro p hp q hq; simp only [vfP, List.mem_singleton] at hq; rw [hq]; exact hp
  | cons l L ih =>
    intro p hp q hq
    simp only [vfP, List.mem_cons] at hq
    rcases hq with rfl | hq
    · exact hp
    · exact ih (p := [geti p 0 + geti l 0, geti p 1 - geti l 1]) rfl q hq
theorem vfP_len (L : List (List Int)) : ∀ p, (vfP p L).length = L.length + 1 := by
  induction L with
  | nil => intro p; rfl
  | cons l L ih => intro p; rw [vfP, List.length_cons, ih, List.length_cons]
theorem vfP_mem {p : List Int} (hp : p.length = 2) {q : List Int} : ∀ {T U : List (List Int)}, q.length = 2 → geti q 0 = geti p 0 + sS E0 T → geti q 1 = geti p 1 - sS E1 T → q ∈ vfP p (T ++ U) := by
  intro T
  induction T generalizing p with
  | nil =>
    intro U hq h0 h1
    have : q = p := row2_ext hq hp (by simp only [sS] at h0; omega) (by simp only [sS] at h1; omega)
    obtain ⟨r, hr⟩ := vfP_ne p ([] ++ U)
    rw [hr, this]; simp
  | cons t T ih =>
    intro U hq h0 h1
    rw [List.cons_append, vfP]
    refine List.mem_cons_of_mem _ (ih rfl hq ?_ ?_)
    · rw [h0, sS]; simp only [E0]; simp [geti]; omega
    · rw [h1, sS]; simp only [E1]; simp [geti]; omega
theorem vfP_of {p : List Int} {q : List Int} : ∀ {L : List (List Int)}, q ∈ vfP p L → ∃ T U, L = T ++ U ∧ geti q 0 = geti p 0 + sS E0 T ∧ geti q 1 = geti p 1 - sS E1 T := by
  intro L
  induction L generalizing p with
  | nil =>
    intro hq
    simp only [vfP, List.mem_singleton] at hq
    exact ⟨[], [], rfl, by rw [hq]; simp [sS], by rw [hq]; simp [sS]⟩
  | cons l L ih =>
    intro hq
    simp only [vfP, List.mem_cons] at hq
    rcases hq with rfl | hq
    · exact ⟨[], l :: L, rfl, by simp [sS], by simp [sS]⟩
    · obtain ⟨T, U, e, h0, h1⟩ := ih hq
      refine ⟨l :: T, U, by rw [e]; rfl, ?_, ?_⟩
      · rw [h0, sS]; simp only [E0]; simp [geti]; omega
      · rw [h1, sS]; simp only [E1]; simp [geti]; omega
/-- The steepest first. -/
def StS (S : List (List Int)) : Prop := S.Pairwise fun a b => 0 ≤ wS a b
theorem stS_cut {S : List (List Int)} (hs : StS S) (hp : ∀ e ∈ S, 1 ≤ geti e 1) {l : List Int} (hl : 1 ≤ geti l 1) :
    ∃ T U, S = T ++ U ∧ ∀ F, sS (cut lt0 l F) S = sS F T := by
  induction S with
  | nil => exact ⟨[], [], rfl, fun F => rfl⟩
  | cons e S ih =>
    obtain ⟨h1, h2⟩ := List.pairwise_cons.1 hs
    by_cases hc : wS l e < 0
    · obtain ⟨T, U, e1, e2⟩ := ih h2 fun x hx => hp x (by simp [hx])
      exact ⟨e :: T, U, by rw [e1]; rfl, fun F => by rw [sS, sS, e2, cut_lt, if_pos hc]⟩
    · refine ⟨[], e :: S, rfl, fun F => ?_⟩
      have hz : ∀ x ∈ e :: S, cut lt0 l F x = 0 := by
        intro x hx
        rw [cut_lt, if_neg]
        rcases List.mem_cons.1 hx with rfl | hx
        · exact hc
        · have := wS_le hl (hp e (by simp)) (hp x (by simp [hx])) (by omega) (h1 x hx)
          omega
      have := sS_congr (F := cut lt0 l F) (G := fun _ => 0) (A := e :: S) hz
      rw [this]
      have hzero : ∀ A : List (List Int), sS (fun _ => 0) A = 0 := by
        intro A; induction A with
        | nil => rfl
        | cons a A ih => rw [sS, ih]; rfl
      rw [hzero]; rfl

end Go.Proofs.Ythlfdhooiekgjaa
/-
  Edges put in order one after the other; the points of a chain one after the other. No condition.
-/
namespace Go.Proofs.Ythlfdhooiekgjaa
open Go Go.RowKit

def E60 (e : List Int) : Prop := e.length = 2 ∧ (1 ≤ geti e 0 ∧ geti e 0 ≤ 60) ∧ (1 ≤ geti e 1 ∧ geti e 1 ≤ 60)
theorem E60.ep {e : List Int} (h : E60 e) : EP e := ⟨h.1, ⟨h.2.1.1, by have := h.2.1.2; omega⟩, ⟨h.2.2.1, by have := h.2.2.2; omega⟩⟩
/-- One more edge in its place. -/
def insE (e : List Int) : List (List Int) → List (List Int)
  | [] => [e]
  | s :: S => if 0 ≤ wS s e then s :: insE e S else e :: s :: S
theorem insE_perm (e : List Int) : ∀ S, (insE e S).Perm (e :: S)
  | [] => List.Perm.refl _
  | s :: S => by
    rw [insE]; split
    · exact ((insE_perm e S).cons s).trans (List.Perm.swap e s S)
    · exact List.Perm.refl _
theorem insE_stS {e : List Int} (he : 1 ≤ geti e 1) : ∀ {S : List (List Int)}, StS S → (∀ s ∈ S, 1 ≤ geti s 1) → StS (insE e S)
  | [], _, _ => by simp [insE, StS]
  | s :: S, hs, hp => by
    obtain ⟨h1, h2⟩ := List.pairwise_cons.1 hs
    have hp' : ∀ x ∈ S, 1 ≤ geti x 1 := fun x hx => hp x (by simp [hx])
    rw [insE]; split
    · rename_i hc
      refine List.pairwise_cons.2 ⟨fun x hx => ?_, insE_stS he h2 hp'⟩
      rcases List.mem_cons.1 ((insE_perm e S).mem_iff.1 hx) with rfl | hx
      · exact hc
      · exact h1 x hx
    · rename_i hc
      have hes : 0 ≤ wS e s := by rw [wS_neg]; omega
      refine List.pairwise_cons.2 ⟨fun x hx => ?_, hs⟩
      rcases List.mem_cons.1 hx with rfl | hx
      · exact hes
      · exact wS_le he (hp s (by simp)) (hp' x hx) hes (h1 x hx)
/-- The first n edges in order. -/
def srtE (xss : List (List Int)) : Nat → List (List Int)
  | 0 => []
  | n + 1 => insE (xss.getD n []) (srtE xss n)
theorem srtE_perm (xss : List (List Int)) : ∀ n, n ≤ xss.length → (srtE xss n).Perm (xss.take n)
  | 0, _ => by simp [srtE]
  | n + 1, h => by
    rw [srtE]
    have ih := srtE_perm xss n (by omega)
    have e : xss.take (n + 1) = xss.take n ++ [xss.getD n []] := by
      rw [List.take_add_one, List.getElem?_eq_getElem (by omega), List.getD_eq_getElem?_getD, List.getElem?_eq_getElem (by omega)]; rfl
    rw [e]
    exact ((insE_perm _ _).trans (ih.cons _)).trans (List.perm_append_comm (l₁ := [xss.getD n []]))
theorem srtE_mem {xss : List (List Int)} {n : Nat} (h : n ≤ xss.length) {x : List Int} (hx : x ∈ srtE xss n) : x ∈ xss := List.mem_of_mem_take ((srtE_perm xss n h).mem_iff.1 hx)
theorem srtE_stS {xss : List (List Int)} (hp : ∀ x ∈ xss, 1 ≤ geti x 1) : ∀ n, n ≤ xss.length → StS (srtE xss n)
  | 0, _ => by simp [srtE, StS]
  | n + 1, h => insE_stS (hp _ (by rw [List.getD_eq_getElem?_getD, List.getElem?_eq_getElem (by omega)]; exact List.getElem_mem _)) (srtE_stS hp n (by omega)) fun s hs => hp s (srtE_mem (by omega) hs)
theorem srtE_all (xss : List (List Int)) : (srtE xss xss.length).Perm xss := by
  have := srtE_perm xss xss.length (Nat.le_refl _)
  rwa [List.take_length] at this

/-! ### Points one after the other -/
theorem vfP_0 (p : List Int) (L : List (List Int)) : (vfP p L).getD 0 [] = p := by
  obtain ⟨r, hr⟩ := vfP_ne p L
  rw [hr]; rfl
theorem vfP_succ : ∀ (L : List (List Int)) (p : List Int) (n : Nat), n < L.length →
    (vfP p L).getD (n + 1) [] = [geti ((vfP p L).getD n []) 0 + geti (L.getD n []) 0, geti ((vfP p L).getD n []) 1 - geti (L.getD n []) 1]
  | [], p, n, h => by simp at h
  | l :: L, p, 0, _ => by
    rw [vfP]
    show (vfP _ L).getD 0 [] = _
    rw [vfP_0]; rfl
  | l :: L, p, n + 1, h => by
    rw [vfP]
    exact vfP_succ L _ n (by simpa using h)
theorem vfP_take (L : List (List Int)) (p : List Int) (n : Nat) (h : n < L.length) :
    (vfP p L).take (n + 1) ++ [[geti ((vfP p L).getD n []) 0 + geti (L.getD n []) 0, geti ((vfP p L).getD n []) 1 - geti (L.getD n []) 1]] = (vfP p L).take (n + 2) := by
  have hl := vfP_len L p
  rw [← vfP_succ L p n h, List.take_add_one (i := n + 1), List.getElem?_eq_getElem (by omega), List.getD_eq_getElem?_getD, List.getElem?_eq_getElem (by omega)]; rfl
theorem take_gets (V : List (List Int)) (n i : Nat) (h : i < n) : (V.take n).getD i [] = V.getD i [] := by
  rw [List.getD_eq_getElem?_getD, List.getElem?_take, if_pos h, List.getD_eq_getElem?_getD]
theorem sS_take_succ (F : List Int → Int) (xss : List (List Int)) (n : Nat) (h : n < xss.length) : sS F (xss.take (n + 1)) = sS F (xss.take n) + F (xss.getD n []) := by
  rw [List.take_add_one, List.getElem?_eq_getElem h, List.getD_eq_getElem?_getD, List.getElem?_eq_getElem h, sS_append]; simp [sS]
theorem sS_len {F : List Int → Int} : ∀ {A : List (List Int)}, (∀ e ∈ A, 1 ≤ F e) → (A.length : Int) ≤ sS F A
  | [], _ => by simp [sS]
  | a :: A, h => by
    have h1 := h a (by simp)
    have h2 := sS_len (A := A) fun e he => h e (by simp [he])
    rw [sS, List.length_cons, Int.natCast_add]
    simp only [Int.natCast_one]
    omega
theorem JoinOf.len {X L : List (List Int)} (h : JoinOf X L) : (L.length : Int) ≤ sS E0 X := by
  rw [← h.tot.1]
  exact sS_len fun e he => (h.pos e he).2.1
end Go.Proofs.Ythlfdhooiekgjaa
/-
  slices.SortFunc at slices of slices, by the library's own contract laid at this dump in plain words. No condition.
-/
namespace Go.Proofs.Ythlfdhooiekgjaa
open Go Go.RowKit Go.Shelf
def laysSort_ren : Go.Shelf.Ren := ⟨fun | 6 => 66 | 15 => 79 | 14 => 78 | 28 => 90 | 29 => 91 | 20 => 82 | 21 => 83 | 22 => 84 | 23 => 85 | 24 => 86 | 25 => 87 | 26 => 88 | 27 => 89 | 46 => 94 | 47 => 95 | 48 => 96 | 49 => 97 | 50 => 98 | 57 => 100 | n => n, fun | 22 => 24 | 24 => 38 | 25 => 68 | 3 => 3 | 39 => 59 | 0 => 0 | 53 => 86 | 55 => 36 | 4 => 4 | 46 => 79 | 45 => 78 | 50 => 83 | 5 => 5 | 9 => 9 | 66 => 89 | 70 => 93 | 76 => 95 | 77 => 96 | n => n, fun | n => n⟩
theorem laysSort : Go.Proofs.SlLaysF.n6 Try.prog laysSort_ren := {
  mixed := by kernel_rfl
  f6 := ⟨Try.f66.name, by decide, Try.func66.trans (congrArg some (by kernel_rfl))⟩
  f14 := ⟨Try.f78.name, by decide, Try.func78.trans (congrArg some (by kernel_rfl))⟩
  f15 := Try.func79.trans (congrArg some (by kernel_rfl))
  f20 := ⟨Try.f82.name, by decide, Try.func82.trans (congrArg some (by kernel_rfl))⟩
  f21 := ⟨Try.f83.name, by decide, Try.func83.trans (congrArg some (by kernel_rfl))⟩
  f22 := ⟨Try.f84.name, by decide, Try.func84.trans (congrArg some (by kernel_rfl))⟩
  f23 := ⟨Try.f85.name, by decide, Try.func85.trans (congrArg some (by kernel_rfl))⟩
  f24 := ⟨Try.f86.name, by decide, Try.func86.trans (congrArg some (by kernel_rfl))⟩
  f25 := ⟨Try.f87.name, by decide, Try.func87.trans (congrArg some (by kernel_rfl))⟩
  f26 := ⟨Try.f88.name, by decide, Try.func88.trans (congrArg some (by kernel_rfl))⟩
  f27 := ⟨Try.f89.name, by decide, Try.func89.trans (congrArg some (by kernel_rfl))⟩
  f28 := Try.func90.trans (congrArg some (by kernel_rfl))
  f29 := Try.func91.trans (congrArg some (by kernel_rfl))
  f46 := ⟨Try.f94.name, by decide, Try.func94.trans (congrArg some (by kernel_rfl))⟩
  f47 := Try.func95.trans (congrArg some (by kernel_rfl))
  f48 := Try.func96.trans (congrArg some (by kernel_rfl))
  f49 := ⟨Try.f97.name, by decide, Try.func97.trans (congrArg some (by kernel_rfl))⟩
  f50 := ⟨Try.f98.name, by decide, Try.func98.trans (congrArg some (by kernel_rfl))⟩
  f57 := ⟨Try.f100.name, by decide, Try.func100.trans (congrArg some (by kernel_rfl))⟩
  t0 := Try.underlying0
  a0 := Try.isAgg0
  z0 := Try.sizeOf0
  v0 := Try.zeroValue0
  t3 := Try.underlying3
  a3 := Try.isAgg3
  z3 := Try.sizeOf3
  v3 := Try.zeroValue3
  t4 := Try.underlying4
  a4 := Try.isAgg4
  z4 := Try.sizeOf4
  v4 := Try.zeroValue4
  t5 := Try.underlying5
  a5 := Try.isAgg5
  z5 := Try.sizeOf5
  v5 := Try.zeroValue5
  t9 := Try.underlying9
  a9 := Try.isAgg9
  z9 := Try.sizeOf9
  v9 := Try.zeroValue9
  t22 := Try.underlying24
  a22 := Try.isAgg24
  z22 := Try.sizeOf24
  v22 := Try.zeroValue24
  a24 := Try.isAgg38
  z24 := Try.sizeOf38
  t25 := Try.underlying68
  a25 := Try.isAgg68
  z25 := Try.sizeOf68
  v25 := Try.zeroValue68
  t39 := Try.underlying59
  a39 := Try.isAgg59
  z39 := Try.sizeOf59
  v39 := Try.zeroValue59
  t45 := Try.underlying78
  a45 := Try.isAgg78
  z45 := Try.sizeOf78
  v45 := Try.zeroValue78
  t46 := Try.underlying79
  a46 := Try.isAgg79
  z46 := Try.sizeOf79
  v46 := Try.zeroValue79
  t50 := Try.underlying83
  a50 := Try.isAgg83
  z50 := Try.sizeOf83
  v50 := Try.zeroValue83
  t53 := Try.underlying86
  a53 := Try.isAgg86
  z53 := Try.sizeOf86
  v53 := Try.zeroValue86
  t55 := Try.underlying36
  a55 := Try.isAgg36
  z55 := Try.sizeOf36
  v55 := Try.zeroValue36
  t66 := Try.underlying89
  a66 := Try.isAgg89
  z66 := Try.sizeOf89
  v66 := Try.zeroValue89
  t70 := Try.underlying93
  a70 := Try.isAgg93
  z70 := Try.sizeOf93
  v70 := Try.zeroValue93
  t76 := Try.underlying95
  a76 := Try.isAgg95
  z76 := Try.sizeOf95
  v76 := Try.zeroValue95
  t77 := Try.underlying96
  a77 := Try.isAgg96
  z77 := Try.sizeOf96
  v77 := Try.zeroValue96 }
open Go.RowKit Go.Lib Go.Sort in
theorem slices_SortFunc {α : Type} [Inhabited α] (enc : α → Value) (h1 : OneCell enc) (cf : α → α → Int) (hO : SWO (ltOf cf)) (g : Nat) (cb : Array Value) (blk off cap : Nat) (d : Array α) (w : World) (eg : ∀ args w, (callFunc g args).run Try.prog w = .ok (.enter g args) w) (hcmp : CmpLays1 Try.prog g cb enc cf blk off d.size w) (hH : Holds enc w blk off d) (hblk : blk < w.heap.size) (hsz : d.size < 4611686018427387904) :
    Calls Try.prog 66 #[.slice (some ⟨blk, off, none⟩) d.size cap, .func (.func g) #[] cb] w fun e w' =>
      e = .returned (.tuple #[]) ∧ ∃ d' n os, PermIn 0 d.size d d' ∧ SortedIn (ltOf cf) 0 d.size d' ∧ w' = sortWorld enc w blk off n d' os := Any.slices_SortFunc laysSort enc h1 cf hO g cb blk off cap d w eg hcmp hH hblk hsz
end Go.Proofs.Ythlfdhooiekgjaa
/-
  slices.SortFunc at own slices of rows, by any function that compares rows. No condition.
-/
namespace Go.Proofs.Ythlfdhooiekgjaa
open Go Go.RowKit Go.Sort

/-- What the sort asks of a function that compares rows. -/
def CmpOk (G : FuncId) (cmp : List Int → List Int → Int) (R : List Int → Prop) : Prop :=
  HasBody Try.prog G ∧ (∀ (w : World) (v1 v2 : Value) (xs ys : List Int), IntsAt w (fun _ => True) v1 xs → IntsAt w (fun _ => True) v2 ys → R xs → R ys →
    Calls Try.prog G #[v1, v2] w fun e w' => e = .returned (.int .i64 (cmp xs ys)) ∧ ∃ q os', w' = grow (w.drewN q) os') ∧
  (∀ x, R x → ¬ cmp x x < 0) ∧ (∀ x y z, R x → R y → R z → cmp x y < 0 → cmp y z < 0 → cmp x z < 0) ∧ ∀ x y z, R x → R y → R z → ¬ cmp x y < 0 → ¬ cmp y z < 0 → ¬ cmp x z < 0

section
variable (enc : Nat → Value) (w : World) (blk m : Nat) (dk : Array Nat) (oss : Array Obj)
theorem sw_size : (sortWorld enc w blk 0 m dk oss).heap.size = w.heap.size + oss.size := by
  simp [sortWorld, grow, putRow, mapBlock, Go.Sort.ahead]
theorem sw_other {b : Nat} (hb : b ≠ blk) (hl : b < w.heap.size) : (sortWorld enc w blk 0 m dk oss).heap[b]? = w.heap[b]? := by
  simp only [sortWorld, grow, putRow, mapBlock, Go.Sort.ahead]
  rw [Array.getElem?_append_left (by simpa using hl), Array.getElem?_modify, if_neg (fun e => hb e.symm)]
theorem sw_row {cur : Array Value} {e : TypeId} {fr : Nat × Nat} (h : w.heap[blk]? = some (.cells cur e fr)) : (sortWorld enc w blk 0 m dk oss).heap[blk]? = some (.cells (putCells enc 0 dk cur) e fr) := by
  have hl := (Array.getElem?_eq_some_iff.1 h).1
  simp only [sortWorld, grow, putRow, mapBlock, Go.Sort.ahead]
  rw [Array.getElem?_append_left (by simpa using hl), Array.getElem?_modify, if_pos rfl, h]
  rfl
end

theorem take_put (enc : Nat → Value) (d : Array Nat) (cur : Array Value) (h : d.size ≤ cur.size) : (putCells enc 0 d cur).toList.take d.size = d.toList.map enc := by
  apply List.ext_getElem?
  intro i
  rw [List.getElem?_take]
  by_cases hi : i < d.size
  · rw [if_pos hi, Array.getElem?_toList, putCells, Array.getElem?_mapIdx, Array.getElem?_eq_getElem (by omega), List.getElem?_map, Array.getElem?_toList, Array.getElem?_eq_getElem hi]
    simp only [Option.map_some, Nat.zero_le, true_and, Nat.zero_add, Nat.sub_zero, hi, if_true]
    rw [getElem!_pos d i hi]
  · rw [if_neg hi, List.getElem?_eq_none (by simp; omega)]

section
variable {env : Env} {os : List AO} {d : Option Tmp} {ty : TypeId} {pos : String} {af : Array Edge} {g : Option (Nat × Bool)}

set_option maxHeartbeats 2000000 in
theorem c_sortg {G : FuncId} {cmp : List Int → List Int → Int} {R : List Int → Prop} (hcmpok : CmpOk G cmp R) {x y : Operand} {ats : Array TypeId} {h : Nat} {e e2 : TypeId} {xss : List (List Int)} (hx : AV.ev env x = .own h) (hs : os[h]? = some (.sls e e2 xss)) (hy : AV.ev env y = .val (.func (.func G) #[] #[])) (hp : ∀ xs ∈ xss, R xs) (hn : 0 < xss.length ∧ xss.length ≤ 1048576) :
    COp Try.prog ⟨d, .call { callee := .value (.func 66), args := #[x, y], argTypes := ats }, ty, pos, af, g⟩ env os
      (fun r e' o => ∃ idx : List Nat, idx.Perm (List.range xss.length) ∧ (∀ i j : Nat, i < j → j < idx.length → ¬ cmp (xss.getD (idx.getD j 0) []) (xss.getD (idx.getD i 0) []) < 0) ∧ r = .any ∧ e' = env.mp (AV.noRow h) ∧ o = ((((os ++ [AO.sli e2 []]).map (AO.via (AV.noRow h) h)).set h (.sls e e2 (idx.map fun i => xss.getD i []))).set os.length .dead)) := by
  intro base w gs tm hr
  have hxv := hr.ev x
  rw [hx] at hxv
  have hyv := hr.evv hy
  generalize hv : Act.eval ⟨tm, []⟩ x = v at hxv
  cases hxv with
  | @own _ gh hg =>
  obtain ⟨us, bs, mb, b1, b2, b3, b4, b5, b6, b7, b8⟩ := hr.ho _ _ _ hg hs
  rcases b1.2 with ⟨_, c2⟩ | ⟨blk, cap, cur, c1, c2, c3, c4, c5, c6, c7⟩
  · omega
  have hmb : gh.v.ownBlock = some blk := by rw [c1]; rfl
  have hblk : blk ∈ mb := by
    rcases b6 with ⟨q1, _⟩ | ⟨q1, q2⟩
    · rw [hmb] at q1; cases q1
    · rw [hmb] at q1; cases q1; simp [q2]
  have hmb1 : ∀ b ∈ mb, b = blk := by
    rcases b6 with ⟨q1, _⟩ | ⟨q1, q2⟩
    · rw [hmb] at q1; cases q1
    · rw [hmb] at q1; cases q1; intro b hb; rw [q2] at hb; simpa using hb
  have a8' : (mb ++ bs.flatten).Nodup := by rw [← b7]; exact b8
  have hlt : blk < w.heap.size := (Array.getElem?_eq_some_iff.1 c3).1
  have hbl0 : ∀ b, b ∈ gh.bl → b < w.heap.size := fun b hb => (hr.hn _ _ _ hg hs (by simp) b hb).2
  have rowblk : ∀ (j : Nat) u, us[j]? = some u → ∀ c, u.ownBlock = some c → c ∈ bs.flatten := by
    intro j u hj c hc
    have hjb : j < bs.length := by
      have := (List.getElem?_eq_some_iff.1 hj).1
      omega
    exact List.mem_flatten.2 ⟨bs.getD j [], by rw [List.getD_eq_getElem?_getD, List.getElem?_eq_getElem hjb]; simp, by rw [← (b5 j u hj).2.2, hc]; simp⟩
  have flne : ∀ c, c ∈ bs.flatten → c ≠ blk ∧ c < w.heap.size := fun c hc => ⟨fun e => (List.nodup_append.1 a8').2.2 blk hblk c hc e.symm, hbl0 c (by rw [b7]; exact List.mem_append.2 (.inr hc))⟩
  -- the rows by their numbers
  let n := xss.length
  let ix : Nat → Nat := fun i => if i < n then i else 0
  have hix : ∀ i, ix i < n := fun i => by show (if i < n then i else 0) < n; split <;> omega
  let enc : Nat → Value := fun i => us.getD (ix i) undef
  let row : Nat → List Int := fun i => xss.getD (ix i) []
  let cf : Nat → Nat → Int := fun i j => cmp (row i) (row j)
  have hus : ∀ i, us[ix i]? = some (enc i) := fun i => by
    have : ix i < us.length := by rw [b2]; exact hix i
    show us[ix i]? = some (us.getD (ix i) undef)
    rw [List.getD_eq_getElem?_getD, List.getElem?_eq_getElem this]; rfl
  have hrow : ∀ i, R (row i) := fun i => by
    have : ix i < xss.length := hix i
    refine hp _ ?_
    show xss.getD (ix i) [] ∈ xss
    rw [List.getD_eq_getElem?_getD, List.getElem?_eq_getElem this]
    exact List.getElem_mem this
  have henc : ∀ i, ∃ c cp, enc i = .slice c (row i).length cp := fun i => by
    obtain ⟨q1, q2, q3⟩ := b5 _ _ (hus i)
    obtain ⟨ua, uc, eu⟩ := ownsRow_slice q1
    exact ⟨ua, uc, eu⟩
  have h1 : OneCell enc := fun i => by obtain ⟨c, cp, q⟩ := henc i; rw [q]; rfl
  have hlt' : ∀ i j, ltOf cf i j = true ↔ cmp (row i) (row j) < 0 := fun i j => by
    unfold ltOf
    rw [decide_eq_true_iff]
  have hlf : ∀ i j, ltOf cf i j = false ↔ ¬ cmp (row i) (row j) < 0 := fun i j => by
    rw [← hlt', Bool.not_eq_true]
  have hO : SWO (ltOf cf) := by
    refine ⟨fun i => ?_, fun i j k p q => ?_, fun i j k p q => ?_⟩
    · rw [hlf]; exact hcmpok.2.2.1 _ (hrow i)
    · rw [hlt'] at *; exact hcmpok.2.2.2.1 _ _ _ (hrow i) (hrow j) (hrow k) p q
    · rw [hlf] at *; exact hcmpok.2.2.2.2 _ _ _ (hrow i) (hrow j) (hrow k) p q
  have hbd : HasBody Try.prog 66 := ⟨_, _, Try.func66, by kernel_rfl, rfl⟩
  have hbc := hcmpok.1
  have hsz : (Array.range n).size = us.length := by simp [n, b2]
  have hcmp : CmpLays1 Try.prog G #[] enc cf blk 0 (Array.range n).size w := by
    intro m oss dk hdk i j
    have hat : ∀ i, IntsAt (sortWorld enc w blk 0 m dk oss) (fun _ => True) (enc i) (row i) := fun i => by
      obtain ⟨q1, q2, q3⟩ := b5 _ _ (hus i)
      refine ⟨RowAt.of_owns (base := base) (e := e2) (ownsRow_of_block q1 fun c hc => ?_), q2⟩
      have := flne c (rowblk _ _ (hus i) c hc)
      exact sw_other enc w blk m dk oss this.1 this.2
    exact hcmpok.2.1 _ _ _ _ _ (hat i) (hat j) (hrow i) (hrow j)
  have hH : Holds enc w blk 0 (Array.range n) := by
    intro j hj
    have hj' : j < n := by simpa using hj
    obtain ⟨b', cp, r1, r2, r3, r4⟩ := own_slice b1 (i := j) (by rw [b2]; exact hj')
    have : b' = blk := by rw [hmb] at r2; exact (Option.some.inj r2).symm
    subst this
    rw [Nat.zero_add]
    refine ⟨?_, r4⟩
    have e1 : (Array.range n)[j]! = j := by rw [getElem!_pos _ j (by simpa using hj')]; simp
    have e2 : ix j = j := if_pos hj'
    rw [r3, e1, ← hus j, e2]
  refine ⟨_, _, run_call hbd [x, y] ats _ rfl w, ?_⟩
  have hcall := slices_SortFunc enc h1 cf hO G #[] blk 0 cap (Array.range n) w (fun args w => hbc.run args w) hcmp hH hlt (by simp [n]; omega)
  have eargs : ([x, y].map (Act.eval ⟨tm, []⟩)).toArray = #[.slice (some ⟨blk, 0, none⟩) (Array.range n).size cap, .func (.func G) #[] #[]] := by
    simp only [List.map_cons, List.map_nil, hv, hyv, c1, hsz]
  rw [eargs]
  refine hcall.mono ?_
  rintro e' w' ⟨rfl, d', m, oss, ⟨p1, p2, p3⟩, hsort, rfl⟩
  have hdl : d'.size = n := by simpa using p1
  have hperm : d'.toList.Perm (List.range n) := by
    have e1 : (d'.extract 0 (Array.range n).size).toList = d'.toList := by simp; rw [List.take_of_length_le (by simp [hdl])]
    have e2 : ((Array.range n).extract 0 (Array.range n).size).toList = List.range n := by simp
    rw [e1, e2] at p3
    exact p3
  let idx := d'.toList
  have hil : idx.length = n := by simpa [idx] using hdl
  have hin : ∀ i ∈ idx, i < n := fun i hi => List.mem_range.1 (hperm.mem_iff.1 hi)
  have hind : idx.Nodup := hperm.nodup_iff.2 List.nodup_range
  let cs : List (List Nat) := idx.map fun i => bs.getD i []
  let us' : List Value := idx.map enc
  have hus' : ∀ i ∈ idx, us[i]? = some (enc i) := fun i hi => by
    have := hus i
    have e2 : ix i = i := if_pos (hin i hi)
    rwa [e2] at this
  let g' : Gh := ⟨gh.v, gh.b, mb ++ cs.flatten, us'⟩
  have hcs : ∀ b, b ∈ cs.flatten → b ∈ bs.flatten := by
    intro b hb
    obtain ⟨l, hl, hbl⟩ := List.mem_flatten.1 hb
    obtain ⟨i, hi, rfl⟩ := List.mem_map.1 hl
    have hi2 : i < bs.length := by rw [b3]; exact hin i hi
    rw [List.getD_eq_getElem?_getD, List.getElem?_eq_getElem hi2] at hbl
    exact List.mem_flatten.2 ⟨_, List.getElem_mem hi2, hbl⟩
  -- a dummy object, to be taken in
  let gd : Gh := ⟨.slice none 0 0, 0, [], []⟩
  have hr1 : Rel base w (gs ++ [gd]) env (os ++ [.sli e2 []]) tm := hr.new (Below.refl _ _) (.sli e2 []) gd (fun _ b hb => by simp [gd] at hb) ⟨World.ownsRow_nil w base e2 1, fun x hx => by simp at hx, .inl ⟨rfl, rfl⟩⟩
  have hgl : h < gs.length := (List.getElem?_eq_some_iff.1 hg).1
  have hol : h < os.length := (List.getElem?_eq_some_iff.1 hs).1
  have hg1 : (gs ++ [gd])[h]? = some gh := by rw [List.getElem?_append_left hgl]; exact hg
  have hs1 : (os ++ [AO.sli e2 []])[h]? = some (.sls e e2 xss) := by rw [List.getElem?_append_left hol]; exact hs
  have hgd : (gs ++ [gd])[os.length]? = some gd := by rw [← hr.hl]; simp
  have hod : (os ++ [AO.sli e2 []])[os.length]? = some (.sli e2 []) := by simp
  have sv : SameV h (gs ++ [gd]) ((gs ++ [gd]).set h g') := by
    refine ⟨fun j z hj hz => ?_, fun z hz => ⟨g', ?_, ?_, ?_⟩⟩
    · rw [List.getElem?_set, if_neg (fun e => hj e.symm)]; exact hz
    · rw [List.getElem?_set, if_pos rfl, if_pos (by simp; omega)]
    · rw [hg1] at hz; cases hz; rfl
    · rw [hg1] at hz; cases hz; rfl
  have hkeep : ∀ b, b < w.heap.size → b ≠ blk → (sortWorld enc w blk 0 m d' oss).heap[b]? = w.heap[b]? := fun b hb hne => sw_other enc w blk m d' oss hne hb
  have hblkbl : blk ∈ gh.bl := by rw [b7]; exact List.mem_append.2 (.inl hblk)
  refine ⟨.tuple #[], .any, _, _, (gs ++ [gd]).set h g', rfl, ⟨idx, hperm, ?_, rfl, rfl, rfl⟩, hr1.absorb hg1 hs1 trivial hgd hod trivial (by omega) g' _ (AV.noRow h) rfl (fun b hb hn => hkeep b hb fun e => hn (by rw [e]; exact hblkbl)) (by rw [sw_size]; omega) ?_ (fun kp hv => hv.noRow kp sv) ?_, .any _, ?_⟩
  · intro i j hij hj
    have hj2 : j < d'.size := by rw [hdl, ← hil]; exact hj
    have hs2 := hsort i j (Nat.zero_le _) hij (by simpa using (by omega : j < n))
    rw [hlf, getElem!_pos d' j hj2, getElem!_pos d' i (by omega)] at hs2
    have q : ∀ a (ha : a < d'.size), row d'[a] = xss.getD (idx.getD a 0) [] := fun a ha => by
      have e3 : idx.getD a 0 = d'[a] := by
        show d'.toList.getD a 0 = _
        rw [List.getD_eq_getElem?_getD, Array.getElem?_toList, Array.getElem?_eq_getElem ha]; rfl
      have e4 : d'[a] < n := hin _ (by show d'[a] ∈ d'.toList; simp)
      rw [e3]
      show xss.getD (ix d'[a]) [] = _
      rw [show ix d'[a] = d'[a] from if_pos e4]
    rw [q j hj2, q i (by omega)] at hs2
    exact hs2
  · intro b hb
    have hbb : b ∈ gh.bl := by
      rw [b7]
      rcases List.mem_append.1 hb with hb | hb
      · exact List.mem_append.2 (.inl hb)
      · exact List.mem_append.2 (.inr (hcs b hb))
    refine ⟨.inl hbb, ?_⟩
    rw [sw_size]
    have := hbl0 b hbb
    omega
  · intro kp
    refine ⟨us', cs, mb, ?_, by simp [us'], by simp [cs], rfl, fun j u hj => ?_, b6, rfl, ?_⟩
    · refine ⟨by simp, .inr ⟨blk, cap, _, ?_, c2, sw_row enc w blk m d' oss c3, ?_, c5, ?_, ?_⟩⟩
      · show gh.v = _
        rw [c1]
        have : us'.length = us.length := by simp [us', hil, b2, n]
        rw [this]
      · have : us'.length = us.length := by simp [us', hil, b2, n]
        omega
      · simpa [putCells] using c6
      · have : us'.length * 1 = d'.size := by simp [us', hil, hdl]
        rw [this]
        exact take_put enc d' cur (by rw [c6, hdl]; omega)
    · obtain ⟨i, hi, rfl⟩ : ∃ i, idx[j]? = some i ∧ enc i = u := by
        rw [List.getElem?_map] at hj
        cases hjx : idx[j]? with
        | none => rw [hjx] at hj; cases hj
        | some i => rw [hjx] at hj; exact ⟨i, rfl, Option.some.inj hj⟩
      have him := List.mem_of_getElem? hi
      have g1 : (idx.map fun i => xss.getD i []).getD j [] = xss.getD i [] := by
        rw [List.getD_eq_getElem?_getD, List.getElem?_map, hi]; rfl
      have g2 : cs.getD j [] = bs.getD i [] := by
        show (idx.map fun i => bs.getD i []).getD j [] = _
        rw [List.getD_eq_getElem?_getD, List.getElem?_map, hi]; rfl
      obtain ⟨q1, q2, q3⟩ := b5 i _ (hus' i him)
      rw [g1, g2]
      refine ⟨ownsRow_of_block q1 fun c hc => ?_, q2, q3⟩
      have hcf := rowblk i _ (hus' i him) c hc
      exact hkeep c (flne c hcf).2 (flne c hcf).1
    · show (mb ++ cs.flatten).Nodup
      rw [List.nodup_append] at a8' ⊢
      refine ⟨a8'.1, nodup_sel a8'.2.1 hind (fun i hi => by rw [b3]; exact hin i hi), fun a ha b hb e => a8'.2.2 a ha b (hcs b hb) e⟩
  · refine ⟨rfl, rfl, rfl, by rw [sw_size]; omega, fun b hb => hkeep b (by have := hr.hb; omega) fun e => ?_⟩
    omega
end

section
variable {env : Env} {os : List AO} {d : Tmp} {ty : TypeId} {pos : String} {af : Array Edge} {l rest : List Oper} {K : APost}
theorem w_sortg {G : FuncId} {cmp : List Int → List Int → Int} {R : List Int → Prop} (hcmpok : CmpOk G cmp R) {x y : Operand} {ats : Array TypeId} {h : Nat} {e e2 : TypeId} {xss : List (List Int)} (hp : ∀ xs ∈ xss, R xs) (hn : 0 < xss.length ∧ xss.length ≤ 1048576) (hx : evo env x = some (.own h)) (hs : os[h]? = some (.sls e e2 xss)) (hy : evo env y = some (.val (.func (.func G) #[] #[])))
    (h' : ∀ idx : List Nat, idx.Perm (List.range xss.length) → (∀ i j : Nat, i < j → j < idx.length → ¬ cmp (xss.getD (idx.getD j 0) []) (xss.getD (idx.getD i 0) []) < 0) → AOps Try.prog .seq l rest K (Env.up (env.mp (AV.noRow h)) d .any) ((((os ++ [AO.sli e2 []]).map (AO.via (AV.noRow h) h)).set h (.sls e e2 (idx.map fun i => xss.getD i []))).set os.length .dead)) :
    AOps Try.prog .seq l (⟨some d, .call { callee := .value (.func 66), args := #[x, y], argTypes := ats }, ty, pos, af, none⟩ :: rest) K env os :=
  AOps.ca (c_sortg hcmpok (ev_of hx) hs (ev_of hy) hp hn) fun r e o ⟨idx, h1, h2, h3, h4, h5⟩ => by subst h3; subst h4; subst h5; exact h' idx h1 h2
end
end Go.Proofs.Ythlfdhooiekgjaa
/-
  The comparison of pairs that the sort is handed, walked by the kit's own steps. No condition.
-/
namespace Go.Proofs.Ythlfdhooiekgjaa
open Go Go.RowKit

/-- Pairs in lexicographic order. -/
def cmp2 (x0 x1 y0 y1 : Int) : Int := if x0 = y0 then Lib.compareInt x1 y1 else Lib.compareInt x0 y0

theorem cmpI_self (x : Int) : Lib.compareInt x x = 0 := by unfold Lib.compareInt; rw [if_neg (by omega), if_neg (by omega)]
theorem cmpI_ne {x y : Int} (h : ¬ x = y) : ¬ Lib.compareInt x y = 0 := by unfold Lib.compareInt; repeat' split
                                                                           all_goals omega

theorem isNaN_k (x : Int) (w : World) : Calls Try.prog 92 #[.int .i64 x] w fun e w' => e = .returned (.bool false) ∧ w' = w := by
  go_enter Try.func92, Try.ntmps92
  go_wp2
  go_ret
  exact ⟨by simp, rfl⟩

set_option maxHeartbeats 1000000 in
theorem cmpCompare_k (x y : Int) (w : World) : Calls Try.prog 80 #[.int .i64 x, .int .i64 y] w fun e w' => e = .returned (.int .i64 (Lib.compareInt x y)) ∧ w' = w := by
  go_enter Try.func80, Try.ntmps80
  go_wp2_with (go_at_call 92; refine (isNaN_k _ _).mono ?_; rintro e w' ⟨rfl, hw⟩; rw [hw])
  all_goals (go_ret; refine ⟨?_, rfl⟩; unfold Lib.compareInt; (repeat' split) <;> first | rfl | (exfalso; omega))

set_option maxHeartbeats 2000000 in
theorem compare_k (b1 o1 c1 b2 o2 c2 : Nat) (x0 x1 y0 y1 : Int) (w : World) (h0 : w.cell? ⟨b1, o1, none⟩ = some (.int .i64 x0)) (h1 : w.cell? ⟨b1, o1 + 1, none⟩ = some (.int .i64 x1)) (g0 : w.cell? ⟨b2, o2, none⟩ = some (.int .i64 y0)) (g1 : w.cell? ⟨b2, o2 + 1, none⟩ = some (.int .i64 y1)) :
    Calls Try.prog 68 #[.slice (some ⟨b1, o1, none⟩) 2 c1, .slice (some ⟨b2, o2, none⟩) 2 c2] w fun e w' => e = .returned (.int .i64 (cmp2 x0 x1 y0 y1)) ∧ w' = w := by
  go_enter Try.func68, Try.ntmps68
  go_wp2
  go_loopg [11] 2 (fun g s11 wr => ∃ k : Nat, k ≤ 2 ∧ 2 - k ≤ g ∧ s11 = .int .i64 k ∧ wr = w ∧ (1 ≤ k → x0 = y0) ∧ (2 ≤ k → x1 = y1))
  case atStart => exact ⟨0, by omega, by omega, rfl, rfl, fun h => by omega, fun h => by omega⟩
  case round =>
    obtain ⟨k, hk, hg, rfl, rfl, e0, e1⟩ := hrel
    rcases (show k = 0 ∨ k = 1 ∨ k = 2 by omega) with rfl | rfl | rfl
    · by_cases e : x0 = y0
      · subst e
        clear e0 e1
        go_wp2_with (go_at_call 80; refine (cmpCompare_k _ _ _).mono ?_; rintro e w' ⟨rfl, hw⟩; rw [hw, cmpI_self])
        go_roundg (2 - 1)
        case measure => omega
        case rel => exact ⟨1, by omega, by omega, rfl, rfl, by simp, by simp⟩
      · have hn := cmpI_ne e
        have A0 : cmp2 x0 x1 y0 y1 = Lib.compareInt x0 y0 := by unfold cmp2; rw [if_neg e]
        have A : Aside (cmp2 x0 x1 y0 y1 = Lib.compareInt x0 y0) := A0
        clear A0
        clear e0 e1 e
        generalize hr : Lib.compareInt x0 y0 = r at hn A
        have B : Aside (Lib.compareInt x0 y0 = r) := hr
        clear hr
        go_wp2_with (go_at_call 80; refine (cmpCompare_k _ _ _).mono ?_; rintro e w' ⟨rfl, hw⟩; rw [hw, B.out])
        go_ret
        exact ⟨by rw [A.out]; rfl, rfl⟩
    · have e := e0 (by omega)
      subst e
      clear e0
      by_cases e : x1 = y1
      · subst e
        clear e1
        go_wp2_with (go_at_call 80; refine (cmpCompare_k _ _ _).mono ?_; rintro e w' ⟨rfl, hw⟩; rw [hw, cmpI_self])
        go_roundg (2 - 2)
        case measure => omega
        case rel => exact ⟨2, by omega, by omega, rfl, rfl, by simp, by simp⟩
      · have hn := cmpI_ne e
        have A0 : cmp2 x0 x1 x0 y1 = Lib.compareInt x1 y1 := by unfold cmp2; rw [if_pos rfl]
        have A : Aside (cmp2 x0 x1 x0 y1 = Lib.compareInt x1 y1) := A0
        clear A0
        clear e1 e
        generalize hr : Lib.compareInt x1 y1 = r at hn A
        have B : Aside (Lib.compareInt x1 y1 = r) := hr
        clear hr
        go_wp2_with (go_at_call 80; refine (cmpCompare_k _ _ _).mono ?_; rintro e w' ⟨rfl, hw⟩; rw [hw, B.out])
        go_ret
        exact ⟨by rw [A.out]; rfl, rfl⟩
    · have e := e0 (by omega)
      have e' := e1 (by omega)
      subst e
      subst e'
      clear e0 e1
      have A0 : cmp2 x0 x1 x0 x1 = 0 := by unfold cmp2; rw [if_pos rfl, cmpI_self]
      have A : Aside (cmp2 x0 x1 x0 x1 = 0) := A0
      clear A0
      go_wp2
      go_ret
      exact ⟨by rw [A.out]; rfl, rfl⟩

/-- The closure. -/
theorem closure_k (b1 o1 c1 b2 o2 c2 : Nat) (x0 x1 y0 y1 : Int) (w : World) (h0 : w.cell? ⟨b1, o1, none⟩ = some (.int .i64 x0)) (h1 : w.cell? ⟨b1, o1 + 1, none⟩ = some (.int .i64 x1)) (g0 : w.cell? ⟨b2, o2, none⟩ = some (.int .i64 y0)) (g1 : w.cell? ⟨b2, o2 + 1, none⟩ = some (.int .i64 y1)) :
    Calls Try.prog 67 #[.slice (some ⟨b1, o1, none⟩) 2 c1, .slice (some ⟨b2, o2, none⟩) 2 c2] w fun e w' => e = .returned (.int .i64 (cmp2 x0 x1 y0 y1)) ∧ w' = w := by
  have hcon := compare_k b1 o1 c1 b2 o2 c2 x0 x1 y0 y1 w h0 h1 g0 g1
  clear h0 h1 g0 g1
  generalize cmp2 x0 x1 y0 y1 = r at hcon ⊢
  go_enter Try.func67, Try.ntmps67
  go_wp2_with (go_at_call 68; refine hcon.mono ?_; rintro e w' ⟨rfl, rfl⟩)
  go_ret
  exact ⟨rfl, rfl⟩
end Go.Proofs.Ythlfdhooiekgjaa
/-
  slices.SortFunc at own slices of pairs: the rows in lexicographic order. No condition.
-/
namespace Go.Proofs.Ythlfdhooiekgjaa
open Go Go.RowKit Go.Sort

/-- 'a' comes ahead of 'b'. -/
def lexLt (a b : List Int) : Prop := geti a 0 < geti b 0 ∨ (geti a 0 = geti b 0 ∧ geti a 1 < geti b 1)
theorem cmp2_lt (x0 x1 y0 y1 : Int) : cmp2 x0 x1 y0 y1 < 0 ↔ (x0 < y0 ∨ (x0 = y0 ∧ x1 < y1)) := by
  unfold cmp2 Lib.compareInt
  repeat' split
  all_goals omega
def cmpP (x y : List Int) : Int := cmp2 (geti x 0) (geti x 1) (geti y 0) (geti y 1)
theorem cmpP_lt {x y : List Int} : cmpP x y < 0 ↔ lexLt x y := cmp2_lt _ _ _ _
theorem pair_cells {w : World} {v : Value} {xs : List Int} (h : IntsAt w (fun _ => True) v xs) (h2 : xs.length = 2) : ∃ b o c, v = .slice (some ⟨b, o, none⟩) 2 c ∧ w.cell? ⟨b, o, none⟩ = some (.int .i64 (geti xs 0)) ∧ w.cell? ⟨b, o + 1, none⟩ = some (.int .i64 (geti xs 1)) := by
  obtain ⟨⟨a, cap, rfl, e1, e2, e3⟩, _⟩ := h
  obtain ⟨b, o, rfl, _, hc⟩ := e3 (by simp; omega)
  match xs, h2 with
  | [p, q], _ =>
    refine ⟨b, o, cap, rfl, ?_, ?_⟩
    · have := hc 0 (.int .i64 p) rfl; simpa [geti] using this
    · have := hc 1 (.int .i64 q) rfl; simpa [geti] using this
theorem cmpP_ok : CmpOk 67 cmpP (fun xs => xs.length = 2) := by
  refine ⟨⟨_, _, Try.func67, by kernel_rfl, rfl⟩, ?_, ?_, ?_, ?_⟩
  · intro w v1 v2 xs ys h1 h2 t1 t2
    obtain ⟨b1, o1, c1, rfl, p0, p1⟩ := pair_cells h1 t1
    obtain ⟨b2, o2, c2, rfl, q0, q1⟩ := pair_cells h2 t2
    refine (closure_k b1 o1 c1 b2 o2 c2 _ _ _ _ w p0 p1 q0 q1).mono ?_
    rintro e w' ⟨rfl, rfl⟩
    exact ⟨rfl, 0, #[], by rw [Go.Sort.grow_empty]; rfl⟩
  · intro x _; rw [cmpP_lt]; unfold lexLt; omega
  · intro x y z _ _ _ h1 h2; rw [cmpP_lt] at *; unfold lexLt at *; omega
  · intro x y z _ _ _ h1 h2; rw [cmpP_lt] at *; unfold lexLt at *; omega

section
variable {env : Env} {os : List AO} {d : Tmp} {ty : TypeId} {pos : String} {af : Array Edge} {l rest : List Oper} {K : APost}
theorem w_sort {x y : Operand} {ats : Array TypeId} {h : Nat} {e e2 : TypeId} {xss : List (List Int)} (hp : ∀ xs ∈ xss, xs.length = 2) (hn : 0 < xss.length ∧ xss.length ≤ 1048576) (hx : evo env x = some (.own h)) (hs : os[h]? = some (.sls e e2 xss)) (hy : evo env y = some (.val (.func (.func 67) #[] #[])))
    (h' : ∀ idx : List Nat, idx.Perm (List.range xss.length) → (∀ i j : Nat, i < j → j < idx.length → ¬ lexLt (xss.getD (idx.getD j 0) []) (xss.getD (idx.getD i 0) [])) → AOps Try.prog .seq l rest K (Env.up (env.mp (AV.noRow h)) d .any) ((((os ++ [AO.sli e2 []]).map (AO.via (AV.noRow h) h)).set h (.sls e e2 (idx.map fun i => xss.getD i []))).set os.length .dead)) :
    AOps Try.prog .seq l (⟨some d, .call { callee := .value (.func 66), args := #[x, y], argTypes := ats }, ty, pos, af, none⟩ :: rest) K env os :=
  w_sortg cmpP_ok hp hn hx hs hy fun idx h1 h2 => h' idx h1 fun i j hij hj => fun hlt => h2 i j hij hj (cmpP_lt.2 hlt)
end
end Go.Proofs.Ythlfdhooiekgjaa
/-
  The vertices of a support: the program's, out of the sorted pairs. No condition but a bound on the sizes.
-/
namespace Go.Proofs.Ythlfdhooiekgjaa
open Go Go.RowKit
attribute [local irreducible] AWp AOps ResIs Ret1 QOp LOp COp AFnV AFn Imms LeE LeO
set_option maxHeartbeats 1000000
set_option linter.unusedSimpArgs false
set_option linter.unusedVariables false

theorem lexle_of {a b : List Int} (h : ¬ lexLt b a) : Hl.lexle gX gY a b := by
  unfold lexLt at h
  unfold Hl.lexle
  simp only [gX, gY]
  omega
theorem rev_len {R : List Nat} : (R.reverse.map (AV.orow 0)).length = R.length := by simp
theorem rev_top {t : Nat} {r : List Nat} {n : Nat} (h : n = r.length) : (t :: r).reverse.getD n 0 = t := by
  subst h; simp [List.getD_eq_getElem?_getD]
theorem rev_top2 {t z : Nat} {r : List Nat} {n : Nat} (h : n = r.length) : (t :: z :: r).reverse.getD n 0 = z := by
  subst h; simp [List.getD_eq_getElem?_getD, List.getElem?_append]
theorem rev_cut {t : Nat} {r : List Nat} {n : Nat} (h : n = r.length) : (t :: r).reverse.take n = r.reverse := by
  subst h; simp [List.take_append]

theorem lim3 {e e2 e3 : TypeId} {ys : List (List Int)} (st : List Nat) : [AO.sls e e2 ys, .dead, .slr e3 (st.map (AV.orow 0))].map (AO.lim 3) = [AO.sls e e2 ys, .dead, .slr e3 (st.map (AV.orow 0))] := by
  have : (st.map (AV.orow 0)).map (AV.lim 3) = st.map (AV.orow 0) := by rw [List.map_map]; rfl
  simp only [List.map_cons, List.map_nil, AO.lim, this]

/-- The stack, its top first, over the first k rows. -/
def StkOk (ys : List (List Int)) (k : Nat) (R : List Nat) : Prop := R.Pairwise (· > ·) ∧ (∀ i ∈ R, i < k) ∧ R.length ≤ k
def CorOk (ys : List (List Int)) (k : Nat) : List Nat → Prop
  | [] => k = 0
  | t :: r => StkOk ys k (t :: r) ∧ Hl.Hull gX gY (Sp ys k) ((t :: r).map fun (i : Nat) => gets ys i) ∧ Hl.Low gX gY (Sp ys k) (gets ys (t : Nat))
def PopOk (ys : List (List Int)) (k : Nat) : List Nat → Prop
  | [] => False
  | t :: r => StkOk ys k (t :: r) ∧ Hl.Hull gX gY (Sp ys k) ((t :: r).map fun (i : Nat) => gets ys i) ∧ Hl.Aft gX gY (Sp ys k) (gets ys (t : Nat)) (gets ys (k : Nat)) ∧ geti (gets ys (k : Nat)) 1 < geti (gets ys (t : Nat)) 1

theorem StkOk.up {ys : List (List Int)} {k : Nat} {R : List Nat} (h : StkOk ys k R) : StkOk ys (k + 1) R := ⟨h.1, fun i hi => by have := h.2.1 i hi; omega, by have := h.2.2; omega⟩
theorem StkOk.push {ys : List (List Int)} {k : Nat} {R : List Nat} (h : StkOk ys k R) : StkOk ys (k + 1) (k :: R) :=
  ⟨List.pairwise_cons.2 ⟨fun i hi => h.2.1 i hi, h.1⟩, fun i hi => by
    rcases List.mem_cons.1 hi with rfl | hi
    · omega
    · have := h.2.1 i hi; omega, by have := h.2.2; rw [List.length_cons]; omega⟩
theorem StkOk.pop {ys : List (List Int)} {k t : Nat} {R : List Nat} (h : StkOk ys k (t :: R)) : StkOk ys k R :=
  ⟨(List.pairwise_cons.1 h.1).2, fun i hi => h.2.1 i (List.mem_cons_of_mem _ hi), by have := h.2.2; rw [List.length_cons] at this; omega⟩
theorem StkOk.nodup {ys : List (List Int)} {k : Nat} {R : List Nat} (h : StkOk ys k R) : R.reverse.Nodup := by
  have : R.Nodup := h.1.imp (fun h => Nat.ne_of_gt h)
  exact (List.reverse_perm R).nodup_iff.2 this
theorem gets_nat (ys : List (List Int)) (i : Nat) : ys.getD i [] = gets ys (i : Nat) := by simp [gets, List.getD_eq_getElem?_getD]

set_option maxHeartbeats 8000000 in
theorem corners_c (xss : List (List Int)) (h0 : 0 < xss.length) (h1 : xss.length ≤ 1048576) (hp : ∀ r ∈ xss, PB r) : AFn Try.prog 37 [.intss xss] (IsIntss 38 2 (verts xss)) := by
  have hcl := copyLists_c xss h1 (fun r hr => by have := (hp r hr).1; omega)
  (refine AFn.start Try.func37 Try.ntmps37 rfl (by kernel_rfl) fun hk => ?_; simp only [Env.start, enumF, List.length_cons, List.length_nil, Nat.reduceAdd, Nat.reduceSub, List.cons_append, List.nil_append])
  repeat' (first | (apply AOps.nil; try simp only [List.nil_append, List.cons_append, List.set_cons_zero, List.set_cons_succ, List.length_cons, List.length_nil, Nat.reduceAdd, AV.sh, AV.sh1, AV.sh0, AO.sh, List.map_cons, List.map_nil, Nat.zero_add, Nat.add_zero, setAll]) | (apply w_move; exact rfl; exact rfl) | (apply w_assign; exact rfl; exact rfl) | apply AWp.seq | apply AWp.region | (apply w_callm (hcl); (focus ((repeat (first | exact im_nil | refine im_cons rfl (.intss _) ?_)); done)); rintro r os0 ⟨rfl, rfl⟩; try simp only [List.nil_append, List.cons_append, List.set_cons_zero, List.set_cons_succ, List.length_cons, List.length_nil, Nat.reduceAdd, AV.sh, AV.sh1, AV.sh0, AO.sh, List.map_cons, List.map_nil, Nat.zero_add, Nat.add_zero, setAll]))
  refine w_sort (fun r hr => (hp r hr).1) ⟨h0, h1⟩ rfl rfl rfl fun idx hperm hsort => ?_
  simp only [Env.mp, List.map_cons, List.map_nil, List.set_cons_zero, List.set_cons_succ, AV.kill, AV.kill1, AO.kill, AV.noRow, AV.noRow1, AO.via, reduceIte, Nat.reduceEqDiff, Nat.reduceLT, Env.up, Nat.zero_ne_one, Nat.one_ne_zero, Nat.reduceAdd, List.cons_append, List.nil_append]
  have hil : idx.length = xss.length := by have := hperm.length_eq; simpa using this
  obtain ⟨ys, eys⟩ : ∃ ys, ys = idx.map fun i => xss.getD i [] := ⟨_, rfl⟩
  have hyl : ys.length = xss.length := by rw [eys]; simpa using hil
  have hmem : ∀ r, r ∈ ys ↔ r ∈ xss := by
    intro r
    rw [eys, List.mem_map]
    constructor
    · rintro ⟨i, hi, rfl⟩
      have := List.mem_range.1 (hperm.mem_iff.1 hi)
      rw [List.getD_eq_getElem?_getD, List.getElem?_eq_getElem this]
      exact List.getElem_mem this
    · intro hr
      obtain ⟨j, hj⟩ := List.getElem?_of_mem hr
      have := (List.getElem?_eq_some_iff.1 hj).1
      exact ⟨j, hperm.mem_iff.2 (List.mem_range.2 this), by rw [List.getD_eq_getElem?_getD, hj]; rfl⟩
  have hrow : ∀ i : Nat, i < ys.length → gets ys (i : Nat) = xss.getD (idx.getD i 0) [] := by
    intro i hi
    rw [← gets_nat, eys, List.getD_eq_getElem?_getD, List.getElem?_map, List.getD_eq_getElem?_getD (l := idx), List.getElem?_eq_getElem (by omega)]
    rfl
  have hs : ∀ k : Nat, k < ys.length → ∀ q, Sp ys k q → Hl.lexle gX gY q (gets ys (k : Nat)) := by
    rintro k hk q ⟨j, hj, rfl⟩
    have := hsort j k hj (by omega)
    rw [hrow j (by omega), hrow k hk]
    exact lexle_of this
  have hpi : ∀ i : Nat, i < ys.length → PB (gets ys (i : Nat)) := fun i hi => hp _ ((hmem _).1 (gets_mem (by omega) (by omega)))
  rw [← eys]
  clear hrow hsort hperm hcl hil eys idx
  repeat' (first | (apply AOps.nil; try simp only [List.nil_append, List.cons_append, List.set_cons_zero, List.set_cons_succ, List.length_cons, List.length_nil, Nat.reduceAdd, AV.sh, AV.sh1, AV.sh0, AO.sh, List.map_cons, List.map_nil, Nat.zero_add, Nat.add_zero, setAll]) | apply AWp.seq | apply AWp.region)
  refine w_bsx0 0 rfl ?_
  try simp only [List.nil_append, List.cons_append, List.set_cons_zero, List.set_cons_succ, List.length_cons, List.length_nil, Nat.reduceAdd, AV.sh, AV.sh1, AV.sh0, AO.sh, List.map_cons, List.map_nil, Nat.zero_add, Nat.add_zero, setAll]
  repeat' (first | (apply AOps.nil; try simp only [List.nil_append, List.cons_append, List.set_cons_zero, List.set_cons_succ, List.length_cons, List.length_nil, Nat.reduceAdd, AV.sh, AV.sh1, AV.sh0, AO.sh, List.map_cons, List.map_nil, Nat.zero_add, Nat.add_zero, setAll]) | (apply w_move; exact rfl; exact rfl) | (apply w_assign; exact rfl; exact rfl) | apply AWp.seq | apply AWp.region | apply AWp.block | (apply w_len; exact rfl; exact rfl; first | exact .ints _ | exact .intss _ | exact .sli rfl | exact .sls rfl | exact .slr rfl | exact .orow rfl | exact .nil))
  refine AWp.loop (ι := Nat × List Nat) (fun x => ⟨66, [(4, .own 2), (12, .own 0), (13, .i ys.length), (14, .i x.1)]⟩) (fun x => [.sls 38 2 ys, .dead, .slr 38 (x.2.reverse.map (AV.orow 0))]) (fun x => x.1 ≤ ys.length ∧ CorOk ys x.1 x.2) (fun x => ys.length - x.1) (0, []) ⟨Nat.zero_le _, rfl⟩ ⟨lee rfl (by (repeat (first | exact le_nil | refine le_eq rfl rfl ?_))), by (repeat (first | exact lo_nil | refine lo_dead ?_ | refine lo_eq rfl ?_)), rfl, (by first | exact rfl | exact lim3 _)⟩ ?_
  rintro ⟨k, R⟩ ⟨k0, k1⟩
  simp only at k0 k1
  have rl := rev_len (R := R)
  by_cases hk : k < ys.length
  · have hpk := hpi k hk
    obtain ⟨p1, p2, p3⟩ := hpk
    have esp := sp_succ ys k
    have hsk := hs k hk
    cases R with
    | nil =>
      obtain rfl : k = 0 := k1
      have rl0 : ((([] : List Nat).reverse).map (AV.orow 0)).length = 0 := rfl
      have rl1 : (([] : List Nat).reverse).length = 0 := rfl
      have rl2 : ([] : List Nat).reverse ++ [0] = [0].reverse := rfl
      generalize est : ([] : List Nat).reverse = st at *
      repeat' (first | (apply AOps.nil; try simp only [List.nil_append, List.cons_append, List.set_cons_zero, List.set_cons_succ, List.length_cons, List.length_nil, Nat.reduceAdd, AV.sh, AV.sh1, AV.sh0, AO.sh, List.map_cons, List.map_nil, Nat.zero_add, Nat.add_zero, setAll]) | ((apply AOps.splitP; exact rfl; exact rfl) <;> intro h) | (apply w_move; exact rfl; exact rfl) | (apply w_assign; exact rfl; exact rfl) | apply AWp.seq | apply AWp.region | ((apply AWp.condP; exact rfl) <;> intro h) | (apply AWp.condF; exact rfl) | apply AWp.block | apply AWp.ret | apply AWp.exit | apply AWp.skip | (apply AWp.regionQ; kernel_rfl; kernel_rfl) | (apply w_skip; exact rfl) | (apply w_pickF; exact rfl; exact rfl; exact rfl) | (apply w_len; exact rfl; exact rfl; first | exact .ints _ | exact .intss _ | exact .sli rfl | exact .sls rfl | exact .slr rfl | exact .orow rfl | exact .nil) | omega | ((first | apply w_lss | apply w_gtr | apply w_idx | apply w_ld); iterate 3 exact rfl) | (apply w_idxo; exact rfl; exact rfl; (exact .sls rfl); exact rfl) | (apply w_ldls; iterate 4 exact rfl))
      refine AWp.loop (ι := Unit) (fun _ => ⟨66, [(4, .own 2), (6, .orow 0 0), (12, .own 0), (13, .i ys.length), (14, .i 0)]⟩) (fun x => [.sls 38 2 ys, .dead, .slr 38 (st.map (AV.orow 0))]) (fun x => True) (fun x => 0) () trivial ⟨lee rfl (by (repeat (first | exact le_nil | refine le_eq rfl rfl ?_))), by (repeat (first | exact lo_nil | refine lo_dead ?_ | refine lo_eq rfl ?_)), rfl, (by first | exact rfl | exact lim3 _)⟩ ?_
      rintro _ _
      repeat' (first | (apply AOps.nil; try simp only [List.nil_append, List.cons_append, List.set_cons_zero, List.set_cons_succ, List.length_cons, List.length_nil, Nat.reduceAdd, AV.sh, AV.sh1, AV.sh0, AO.sh, List.map_cons, List.map_nil, Nat.zero_add, Nat.add_zero, setAll]) | ((apply AOps.splitP; exact rfl; exact rfl) <;> intro h) | (apply w_move; exact rfl; exact rfl) | (apply w_assign; exact rfl; exact rfl) | apply AWp.seq | apply AWp.region | (apply AWp.condF; exact rfl) | apply AWp.exit | (apply AWp.regionQ; kernel_rfl; kernel_rfl) | (apply w_skip; exact rfl) | (apply w_pickF; exact rfl; exact rfl; exact rfl) | (apply w_len; exact rfl; exact rfl; first | exact .ints _ | exact .intss _ | exact .sli rfl | exact .sls rfl | exact .slr rfl | exact .orow rfl | exact .nil) | ((first | apply w_bsx1 | apply w_gtr | apply w_add | apply w_sub | apply w_idx); iterate 3 exact rfl) | (apply w_appx; exact rfl; exact rfl; exact rfl; exact rfl; exact rfl; rotate_left 1; simp only [Env.mp, List.map_cons, List.map_nil, List.set_cons_zero, List.set_cons_succ, AV.kill, AV.kill1, AO.kill, AV.rin, AV.rin1, AV.noRow, AV.noRow1, AO.via, reduceIte, Nat.reduceEqDiff, Nat.reduceLT, Env.up, Nat.zero_ne_one, Nat.one_ne_zero, Nat.reduceAdd, List.cons_append, List.nil_append]; rotate_left 1) | omega | (apply inI_of <;> omega))
      refine ⟨(1, [0]), ⟨by simp only; omega, ⟨⟨by simp, by simp, by simp⟩, ?_⟩⟩, by simp only; omega, by simp only [← rl2]; exact ⟨lee rfl (by (repeat (first | exact le_nil | refine le_eq rfl rfl ?_))), by (repeat (first | exact lo_nil | refine lo_dead ?_ | refine lo_eq rfl ?_)), rfl, (by first | exact rfl | exact lim3 _)⟩⟩
      have := Hl.Hull.one (X := gX) (Y := gY) (S := Sp ys 0) (p := gets ys ((0 : Nat) : Int)) (fun q ⟨j, hj, _⟩ => by omega)
      rw [esp] at this
      exact this
    | cons t r =>
      obtain ⟨k2, k3, k4⟩ := k1
      have htk : t < k := k2.2.1 t (by simp)
      have e1 : (t :: r).reverse.getD (((((t :: r).reverse.map (AV.orow 0)).length : Nat) : Int) - 1).toNat 0 = t := rev_top (by rw [rl]; simp)
      have e2 : ys.getD ((t :: r).reverse.getD (((((t :: r).reverse.map (AV.orow 0)).length : Nat) : Int) - 1).toNat 0) [] = gets ys (t : Nat) := by rw [e1, gets_nat]
      have rl' : ((t :: r).reverse.map (AV.orow 0)).length = r.length + 1 := by rw [rl]; rfl
      have hpt := hpi t (by omega)
      have hl2 : (ys.getD ((t :: r).reverse.getD (((((t :: r).reverse.map (AV.orow 0)).length : Nat) : Int) - 1).toNat 0) []).length = 2 := by rw [e2]; exact hpt.1
      have hl1 : ((t :: r).reverse).length = r.length + 1 := by simp
      have hl3 : (ys.getD (k : Int).toNat []).length = 2 := p1
      by_cases hy : geti (gets ys (t : Nat)) 1 ≤ geti (gets ys (k : Nat)) 1
      · have hy' : geti (ys.getD ((t :: r).reverse.getD (((((t :: r).reverse.map (AV.orow 0)).length : Nat) : Int) - 1).toNat 0) []) ((Int.toNat 1 : Nat) : Int) ≤ geti (ys.getD (k : Int).toNat []) ((Int.toNat 1 : Nat) : Int) := by rw [e2]; exact hy
        have k20 := k2.2.2
        rw [List.length_cons] at k20
        generalize est : (t :: r).reverse = st at *
        repeat' (first | (apply AOps.nil; try simp only [List.nil_append, List.cons_append, List.set_cons_zero, List.set_cons_succ, List.length_cons, List.length_nil, Nat.reduceAdd, AV.sh, AV.sh1, AV.sh0, AO.sh, List.map_cons, List.map_nil, Nat.zero_add, Nat.add_zero, setAll]) | ((apply AOps.splitP; exact rfl; exact rfl) <;> intro h) | (apply w_move; exact rfl; exact rfl) | (apply w_assign; exact rfl; exact rfl) | apply AWp.seq | apply AWp.region | ((apply AWp.condP; exact rfl) <;> intro h) | (apply AWp.condF; exact rfl) | apply AWp.block | apply AWp.ret | apply AWp.exit | apply AWp.skip | (apply AWp.regionQ; kernel_rfl; kernel_rfl) | (apply w_skip; exact rfl) | (apply w_pickT; exact rfl; exact rfl; exact rfl) | (apply w_pickF; exact rfl; exact rfl; exact rfl) | (apply w_len; exact rfl; exact rfl; first | exact .ints _ | exact .intss _ | exact .sli rfl | exact .sls rfl | exact .slr rfl | exact .orow rfl | exact .nil) | omega | ((first | apply w_lss | apply w_gtr | apply w_geq | apply w_add | apply w_sub | apply w_idx | apply w_ld); iterate 3 exact rfl) | (apply w_idxo; exact rfl; exact rfl; (first | exact .sls rfl | exact .slr rfl); exact rfl) | ((first | apply w_idxr | apply w_ldr); iterate 4 exact rfl) | (apply w_ldls; iterate 4 exact rfl) | (apply w_ldrp; iterate 4 exact rfl) | (apply inI_of <;> omega))
        refine ⟨(k + 1, t :: r), ⟨by simp only; omega, ?_⟩, by simp only; omega, ?_⟩
        · have := k3.skip hsk k4 hy
          rw [esp] at this
          exact ⟨k2.up, this⟩
        · simp only [est]
          exact ⟨lee rfl (by (repeat (first | exact le_nil | refine le_eq rfl rfl ?_))), by (repeat (first | exact lo_nil | refine lo_dead ?_ | refine lo_eq rfl ?_)), rfl, (by first | exact rfl | exact lim3 _)⟩
      · have hall : ∀ q, Sp ys k q → geti (gets ys (k : Nat)) 1 < gY q := fun q hq => by have := (k4 q hq).1; simp only [gY] at *; omega
        have hy' : ¬ geti (ys.getD ((t :: r).reverse.getD (((((t :: r).reverse.map (AV.orow 0)).length : Nat) : Int) - 1).toNat 0) []) ((Int.toNat 1 : Nat) : Int) ≤ geti (ys.getD (k : Int).toNat []) ((Int.toNat 1 : Nat) : Int) := by rw [e2]; exact hy
        have k20 := k2.2.2
        rw [List.length_cons] at k20
        generalize est : (t :: r).reverse = st at *
        repeat' (first | (apply AOps.nil; try simp only [List.nil_append, List.cons_append, List.set_cons_zero, List.set_cons_succ, List.length_cons, List.length_nil, Nat.reduceAdd, AV.sh, AV.sh1, AV.sh0, AO.sh, List.map_cons, List.map_nil, Nat.zero_add, Nat.add_zero, setAll]) | ((apply AOps.splitP; exact rfl; exact rfl) <;> intro h) | (apply w_move; exact rfl; exact rfl) | (apply w_assign; exact rfl; exact rfl) | apply AWp.seq | apply AWp.region | ((apply AWp.condP; exact rfl) <;> intro h) | (apply AWp.condF; exact rfl) | apply AWp.block | apply AWp.ret | apply AWp.exit | apply AWp.skip | (apply AWp.regionQ; kernel_rfl; kernel_rfl) | (apply w_skip; exact rfl) | (apply w_pickT; exact rfl; exact rfl; exact rfl) | (apply w_pickF; exact rfl; exact rfl; exact rfl) | (apply w_len; exact rfl; exact rfl; first | exact .ints _ | exact .intss _ | exact .sli rfl | exact .sls rfl | exact .slr rfl | exact .orow rfl | exact .nil) | omega | ((first | apply w_lss | apply w_gtr | apply w_geq | apply w_sub | apply w_idx | apply w_ld); iterate 3 exact rfl) | (apply w_idxo; exact rfl; exact rfl; (first | exact .sls rfl | exact .slr rfl); exact rfl) | ((first | apply w_idxr | apply w_ldr); iterate 4 exact rfl) | (apply w_ldls; iterate 4 exact rfl) | (apply w_ldrp; iterate 4 exact rfl) | (apply inI_of <;> omega))
        refine AWp.loop (ι := List Nat) (fun _ => ⟨66, [(4, .own 2), (6, .orow 0 k), (12, .own 0), (13, .i ys.length), (14, .i k)]⟩) (fun x => [.sls 38 2 ys, .dead, .slr 38 (x.reverse.map (AV.orow 0))]) (fun x => PopOk ys k x) (fun x => x.length) (t :: r) ⟨k2, k3, Hl.aft_low k4 (by simp only [gY]; omega), by omega⟩ (by simp only [est]; exact ⟨lee rfl (by (repeat (first | exact le_nil | refine le_eq rfl rfl ?_))), by (repeat (first | exact lo_nil | refine lo_dead ?_ | refine lo_eq rfl ?_)), rfl, (by first | exact rfl | exact lim3 _)⟩) ?_
        clear e1 e2 rl' hpt hl2 hl1 hy hy' est k20 k2 k3 k4 rl htk
        rintro R k2
        cases R with
        | nil => exact k2.elim
        | cons t r =>
          obtain ⟨k2, k3, k4, k5⟩ := k2
          have htk : t < k := k2.2.1 t (by simp)
          have k20 := k2.2.2
          rw [List.length_cons] at k20
          have rl' : ((t :: r).reverse.map (AV.orow 0)).length = r.length + 1 := by rw [rev_len]; rfl
          have hl1 : ((t :: r).reverse).length = r.length + 1 := by simp
          have hpt := hpi t (by omega)
          have eapp : (t :: r).reverse ++ [k] = (k :: t :: r).reverse := by simp
          have eapp' : (t :: r).reverse ++ [(k : Int).toNat] = (k :: t :: r).reverse := eapp
          cases r with
          | nil =>
            simp only [List.length_nil] at rl' hl1
            generalize est : [t].reverse = st at *
            repeat' (first | (apply AOps.nil; try simp only [List.nil_append, List.cons_append, List.set_cons_zero, List.set_cons_succ, List.length_cons, List.length_nil, Nat.reduceAdd, AV.sh, AV.sh1, AV.sh0, AO.sh, List.map_cons, List.map_nil, Nat.zero_add, Nat.add_zero, setAll]) | ((apply AOps.splitP; exact rfl; exact rfl) <;> intro h) | (apply w_move; exact rfl; exact rfl) | (apply w_assign; exact rfl; exact rfl) | apply AWp.seq | apply AWp.region | (apply AWp.condF; exact rfl) | apply AWp.exit | (apply AWp.regionQ; kernel_rfl; kernel_rfl) | (apply w_skip; exact rfl) | (apply w_pickF; exact rfl; exact rfl; exact rfl) | (apply w_len; exact rfl; exact rfl; first | exact .ints _ | exact .intss _ | exact .sli rfl | exact .sls rfl | exact .slr rfl | exact .orow rfl | exact .nil) | ((first | apply w_bsx1 | apply w_gtr | apply w_add | apply w_sub | apply w_idx); iterate 3 exact rfl) | (apply w_appx; exact rfl; exact rfl; exact rfl; exact rfl; exact rfl; rotate_left 1; simp only [Env.mp, List.map_cons, List.map_nil, List.set_cons_zero, List.set_cons_succ, AV.kill, AV.kill1, AO.kill, AV.rin, AV.rin1, AV.noRow, AV.noRow1, AO.via, reduceIte, Nat.reduceEqDiff, Nat.reduceLT, Env.up, Nat.zero_ne_one, Nat.one_ne_zero, Nat.reduceAdd, List.cons_append, List.nil_append]; rotate_left 1) | omega | (apply inI_of <;> omega))
            refine ⟨(k + 1, [k, t]), ⟨by simp only; omega, ?_⟩, by simp only; omega, ?_⟩
            · have := Hl.Hull.push hsk k3 k4 k5 hall (fun z r' e => by cases e)
              rw [esp] at this
              exact ⟨k2.push, this⟩
            · simp only [← eapp]
              exact ⟨lee rfl (by (repeat (first | exact le_nil | refine le_eq rfl rfl ?_))), by (repeat (first | exact lo_nil | refine lo_dead ?_ | refine lo_eq rfl ?_)), rfl, (by first | exact rfl | exact lim3 _)⟩
          | cons z r =>
            have hzk : z < k := k2.2.1 z (by simp)
            have hpz := hpi z (by omega)
            have e1 : (t :: z :: r).reverse.getD (((((t :: z :: r).reverse.map (AV.orow 0)).length : Nat) : Int) - 1).toNat 0 = t := rev_top (by rw [rl']; simp)
            have e2 : (t :: z :: r).reverse.getD (((((t :: z :: r).reverse.map (AV.orow 0)).length : Nat) : Int) - 2).toNat 0 = z := rev_top2 (by rw [rl', List.length_cons]; omega)
            have ct := turns_c (gets ys (z : Nat)) (gets ys (t : Nat)) (gets ys (k : Nat)) hpz hpt ⟨p1, p2, p3⟩
            have ecut : (t :: z :: r).reverse.take (((((t :: z :: r).reverse.map (AV.orow 0)).length : Nat) : Int) - 1).toNat = (z :: r).reverse := rev_cut (by rw [rl']; simp)
            have ct' : AFnV Try.prog 69 [.ints (ys.getD ((t :: z :: r).reverse.getD (((((t :: z :: r).reverse.map (AV.orow 0)).length : Nat) : Int) - 2).toNat 0) []), .ints (ys.getD ((t :: z :: r).reverse.getD (((((t :: z :: r).reverse.map (AV.orow 0)).length : Nat) : Int) - 1).toNat 0) []), .ints (ys.getD k [])] (.bool (decide (0 < Hl.cr gX gY (gets ys (z : Nat)) (gets ys (t : Nat)) (gets ys (k : Nat))))) := by
              rw [e1, e2, gets_nat, gets_nat, gets_nat]; exact ct
            by_cases hcr : 0 < Hl.cr gX gY (gets ys (z : Nat)) (gets ys (t : Nat)) (gets ys (k : Nat))
            · rw [decide_eq_true hcr] at ct'
              simp only [List.length_cons] at rl' hl1 k20
              generalize est : (t :: z :: r).reverse = st at *
              repeat' (first | (apply AOps.nil; try simp only [List.nil_append, List.cons_append, List.set_cons_zero, List.set_cons_succ, List.length_cons, List.length_nil, Nat.reduceAdd, AV.sh, AV.sh1, AV.sh0, AO.sh, List.map_cons, List.map_nil, Nat.zero_add, Nat.add_zero, setAll]) | ((apply AOps.splitP; exact rfl; exact rfl) <;> intro h) | (apply w_move; exact rfl; exact rfl) | (apply w_assign; exact rfl; exact rfl) | apply AWp.seq | apply AWp.region | (apply AWp.condF; exact rfl) | apply AWp.exit | (apply AWp.regionQ; kernel_rfl; kernel_rfl) | (apply w_skip; exact rfl) | (apply w_pickT; exact rfl; exact rfl; exact rfl) | (apply w_pickF; exact rfl; exact rfl; exact rfl) | (apply w_len; exact rfl; exact rfl; first | exact .ints _ | exact .intss _ | exact .sli rfl | exact .sls rfl | exact .slr rfl | exact .orow rfl | exact .nil) | ((first | apply w_bsx1 | apply w_gtr | apply w_add | apply w_sub | apply w_idx | apply w_ld); iterate 3 exact rfl) | (apply w_appx; exact rfl; exact rfl; exact rfl; exact rfl; exact rfl; rotate_left 1; simp only [Env.mp, List.map_cons, List.map_nil, List.set_cons_zero, List.set_cons_succ, AV.kill, AV.kill1, AO.kill, AV.rin, AV.rin1, AV.noRow, AV.noRow1, AO.via, reduceIte, Nat.reduceEqDiff, Nat.reduceLT, Env.up, Nat.zero_ne_one, Nat.one_ne_zero, Nat.reduceAdd, List.cons_append, List.nil_append]; rotate_left 1) | (apply w_call (ct'); exact rfl; exact rfl; focus ((repeat (first | exact im_nil | refine im_cons rfl (.orow rfl) ?_)); done)) | omega | ((apply w_not); iterate 2 exact rfl) | (apply w_idxo; exact rfl; exact rfl; (exact .slr rfl); exact rfl) | ((apply w_ldr); iterate 4 exact rfl) | (apply inI_of <;> omega))
              refine ⟨(k + 1, k :: t :: z :: r), ⟨by simp only; omega, ?_⟩, by simp only; omega, ?_⟩
              · have := Hl.Hull.push hsk k3 k4 k5 hall (fun z' r' e => by cases e; exact hcr)
                rw [esp] at this
                exact ⟨k2.push, this⟩
              · simp only [← eapp]
                exact ⟨lee rfl (by (repeat (first | exact le_nil | refine le_eq rfl rfl ?_))), by (repeat (first | exact lo_nil | refine lo_dead ?_ | refine lo_eq rfl ?_)), rfl, (by first | exact rfl | exact lim3 _)⟩
            · rw [decide_eq_false hcr] at ct'
              simp only [List.length_cons] at rl' hl1 k20
              generalize est : (t :: z :: r).reverse = st at *
              repeat' (first | (apply AOps.nil; try simp only [List.nil_append, List.cons_append, List.set_cons_zero, List.set_cons_succ, List.length_cons, List.length_nil, Nat.reduceAdd, AV.sh, AV.sh1, AV.sh0, AO.sh, List.map_cons, List.map_nil, Nat.zero_add, Nat.add_zero, setAll]) | ((apply AOps.splitP; exact rfl; exact rfl) <;> intro h) | (apply w_move; exact rfl; exact rfl) | (apply w_assign; exact rfl; exact rfl) | apply AWp.seq | apply AWp.region | (apply AWp.condT; exact rfl) | (apply AWp.condF; exact rfl) | apply AWp.block | apply AWp.exit | apply AWp.skip | (apply AWp.regionQ; kernel_rfl; kernel_rfl) | (apply w_skip; exact rfl) | (apply w_pickT; exact rfl; exact rfl; exact rfl) | (apply w_pickF; exact rfl; exact rfl; exact rfl) | (apply w_len; exact rfl; exact rfl; first | exact .ints _ | exact .intss _ | exact .sli rfl | exact .sls rfl | exact .slr rfl | exact .orow rfl | exact .nil) | ((first | apply w_bsx1 | apply w_gtr | apply w_add | apply w_sub | apply w_idx | apply w_ld | apply w_slhi); iterate 3 exact rfl) | (apply w_appx; exact rfl; exact rfl; exact rfl; exact rfl; exact rfl; rotate_left 1; simp only [Env.mp, List.map_cons, List.map_nil, List.set_cons_zero, List.set_cons_succ, AV.kill, AV.kill1, AO.kill, AV.rin, AV.rin1, AV.noRow, AV.noRow1, AO.via, reduceIte, Nat.reduceEqDiff, Nat.reduceLT, Env.up, Nat.zero_ne_one, Nat.one_ne_zero, Nat.reduceAdd, List.cons_append, List.nil_append]; rotate_left 1) | (apply w_cutx; exact rfl; exact rfl; exact rfl; rotate_left 2; simp only [Env.mp, List.map_cons, List.map_nil, List.set_cons_zero, List.set_cons_succ, AV.kill, AV.kill1, AO.kill, AV.rin, AV.rin1, AV.noRow, AV.noRow1, AO.via, reduceIte, Nat.reduceEqDiff, Nat.reduceLT, Env.up, Nat.zero_ne_one, Nat.one_ne_zero, Nat.reduceAdd, List.cons_append, List.nil_append]; rotate_left 1) | (apply w_call (ct'); exact rfl; exact rfl; focus ((repeat (first | exact im_nil | refine im_cons rfl (.orow rfl) ?_)); done)) | omega | ((apply w_not); iterate 2 exact rfl) | (apply w_idxo; exact rfl; exact rfl; (exact .slr rfl); exact rfl) | ((apply w_ldr); iterate 4 exact rfl) | (apply inI_of <;> omega))
              refine ⟨z :: r, ⟨k2.pop, k3.rest, k3.pop hcr (by simp only [gY]; omega), ?_⟩, by simp only [List.length_cons]; omega, ?_⟩
              · have := k3.2.1
                simp only [gY] at this
                omega
              · simp only [← ecut]
                exact ⟨lee rfl (by (repeat (first | exact le_nil | refine le_eq rfl rfl ?_))), by (repeat (first | exact lo_nil | refine lo_dead ?_ | refine lo_eq rfl ?_)), rfl, (by first | exact rfl | exact lim3 _)⟩
  · have e : k = ys.length := by omega
    subst e
    cases R with
    | nil => simp only [CorOk] at k1; omega
    | cons t r =>
      obtain ⟨k2, k3, k4⟩ := k1
      have hv : verts xss = (t :: r).reverse.map fun i => ys.getD i [] := by
        refine verts_eq (fun r hr => (hp r hr).1) ?_
        have hg := k3.gw k4
        have e1 : Sp ys ys.length = (· ∈ xss) := funext fun q => propext ((sp_all ys q).trans (hmem q))
        rw [e1] at hg
        unfold HasV
        have e2 : (t :: r).reverse.map (fun i => ys.getD i []) = ((t :: r).map fun (i : Nat) => gets ys i).reverse := by
          rw [← List.map_reverse]
          congr 1
        rw [e2]
        exact hg
      refine AWp.merge (p := 2) (k := 0) rfl rfl k2.nodup ?_
      simp only [Env.mp, List.map_cons, List.map_nil, List.set_cons_zero, List.set_cons_succ, AV.kill, AV.kill1, AO.kill, AV.noRow, AV.noRow1, AO.via, reduceIte, Nat.reduceEqDiff, Nat.reduceLT, Env.up, Nat.zero_ne_one, Nat.one_ne_zero, Nat.reduceAdd, List.cons_append, List.nil_append]
      rw [hv]
      repeat' (first | (apply AOps.nil; try simp only [List.nil_append, List.cons_append, List.set_cons_zero, List.set_cons_succ, List.length_cons, List.length_nil, Nat.reduceAdd, AV.sh, AV.sh1, AV.sh0, AO.sh, List.map_cons, List.map_nil, Nat.zero_add, Nat.add_zero, setAll]) | (apply w_move; exact rfl; exact rfl) | (apply w_assign; exact rfl; exact rfl) | apply AWp.seq | apply AWp.region | ((apply AWp.condP; exact rfl) <;> intro h) | apply AWp.block | apply AWp.ret | apply AWp.exit | apply AWp.skip | omega | ((apply w_lss); iterate 3 exact rfl))
      exact ⟨_, _, _, .v1 Try.results37 rfl, .sls rfl, rfl, rfl⟩
end Go.Proofs.Ythlfdhooiekgjaa
/-
  The laws' helpers that write marks into a result and look for them. No condition but a bound on the sizes.
-/
namespace Go.Proofs.Ythlfdhooiekgjaa
open Go Go.RowKit
attribute [local irreducible] AWp AOps ResIs Ret1 QOp LOp COp AFnV AFn Imms LeE LeO
set_option maxHeartbeats 1000000
set_option linter.unusedSimpArgs false
set_option linter.unusedVariables false

end Go.Proofs.Ythlfdhooiekgjaa
/-
  Marks written into lists of lists. No condition but a bound on the sizes.
-/
namespace Go.Proofs.Ythlfdhooiekgjaa
open Go Go.RowKit
attribute [local irreducible] AWp AOps ResIs Ret1 QOp LOp COp AFnV AFn Imms LeE LeO
set_option maxHeartbeats 1000000
set_option linter.unusedSimpArgs false
set_option linter.unusedVariables false

/-! ### Marks -/
/-- A new slice of rows, and a code. -/
def IsSSC (T T2 : TypeId) (xss : List (List Int)) (e : Int) (r : AV) (os : List AO) : Prop := r = .tup [.own 0, .i e] ∧ os = [.sls T T2 xss]
end Go.Proofs.Ythlfdhooiekgjaa
/-
  Vertices of supports: their order, whether the polygon is convenient, edges, areas. No condition but a bound on the sizes.
-/
namespace Go.Proofs.Ythlfdhooiekgjaa
open Go Go.RowKit
attribute [local irreducible] AWp AOps ResIs Ret1 QOp LOp COp AFnV AFn Imms LeE LeO
set_option maxHeartbeats 1000000
set_option linter.unusedSimpArgs false
set_option linter.unusedVariables false

/-! ### Chains -/
/-- To the right and down. -/
def Ch : List (List Int) → Prop
  | a :: b :: r => geti a 0 < geti b 0 ∧ geti b 1 < geti a 1 ∧ Ch (b :: r)
  | _ => True

theorem gwf_chain {S : List Int → Prop} : ∀ {r : List (List Int)} {a : List Int}, Hl.GWf gX gY S (a :: r) → (∀ q, S q → gY q < gY a → gX a < gX q) → Ch (a :: r) ∧ ∀ v ∈ r, S v
  | [], a, _, _ => ⟨trivial, fun v hv => by cases hv⟩
  | b :: r, a, h, hx => by
    obtain ⟨⟨h1, h2, h3⟩, h4⟩ := h
    have xb := hx b h1 h2
    have ih := gwf_chain h4 (fun q hq hy => by
      have h5 := (h3 q hq (by omega)).1
      unfold Hl.cr at h5
      simp only [gX, gY] at *
      apply Classical.byContradiction
      intro hn
      have p1 := Int.mul_pos (show 0 < geti b 0 - geti a 0 by omega) (show 0 < geti b 1 - geti q 1 by omega)
      have p2 := Int.mul_nonneg (show 0 ≤ geti a 1 - geti b 1 by omega) (show 0 ≤ geti b 0 - geti q 0 by omega)
      grind)
    refine ⟨⟨xb, h2, ih.1⟩, fun v hv => ?_⟩
    rcases List.mem_cons.1 hv with rfl | hv
    · exact h1
    · exact ih.2 v hv

theorem ch_len : ∀ {r : List (List Int)} {a : List Int}, Ch (a :: r) → (∀ v ∈ a :: r, 0 ≤ geti v 1) → (r.length : Int) ≤ geti a 1
  | [], a, _, h => by have := h a (by simp); simp; exact this
  | b :: r, a, hc, h => by
    have ih := ch_len hc.2.2 (fun v hv => h v (List.mem_cons_of_mem _ hv))
    have := hc.2.1
    rw [List.length_cons]
    omega
theorem ch_get : ∀ {V : List (List Int)}, Ch V → ∀ i : Nat, i + 1 < V.length → geti (gets V (i : Nat)) 0 < geti (gets V ((i : Nat) + 1 : Int)) 0 ∧ geti (gets V ((i : Nat) + 1 : Int)) 1 < geti (gets V (i : Nat)) 1
  | [], _, i, h => by simp at h
  | [a], _, i, h => by simp at h
  | a :: b :: r, hc, i, h => by
    cases i with
    | zero => exact ⟨hc.1, hc.2.1⟩
    | succ i => exact ch_get hc.2.2 i (by simpa using h)

/-- What is known of vertices. -/
structure VOk (B : Int) (V : List (List Int)) : Prop where
  pos : 0 < V.length
  len : (V.length : Int) ≤ B + 1
  row : ∀ v ∈ V, v.length = 2 ∧ (0 ≤ geti v 0 ∧ geti v 0 ≤ B) ∧ (0 ≤ geti v 1 ∧ geti v 1 ≤ B)
  inc : ∀ i : Nat, i + 1 < V.length → geti (gets V (i : Nat)) 0 < geti (gets V ((i : Nat) + 1 : Int)) 0 ∧ geti (gets V ((i : Nat) + 1 : Int)) 1 < geti (gets V (i : Nat)) 1
theorem VOk.at {B : Int} {V : List (List Int)} (h : VOk B V) (i : Nat) (hi : i < V.length) : (gets V (i : Nat)).length = 2 ∧ (0 ≤ geti (gets V (i : Nat)) 0 ∧ geti (gets V (i : Nat)) 0 ≤ B) ∧ (0 ≤ geti (gets V (i : Nat)) 1 ∧ geti (gets V (i : Nat)) 1 ≤ B) :=
  h.row _ (gets_mem (by omega) (by omega))

theorem hasV_ok {xss V : List (List Int)} {B : Int} (hp : ∀ v ∈ xss, v.length = 2 ∧ (0 ≤ geti v 0 ∧ geti v 0 ≤ B) ∧ (0 ≤ geti v 1 ∧ geti v 1 ≤ B)) (h : HasV xss V) : VOk B V := by
  obtain ⟨m, r, rfl, h1, h2, h3⟩ := h
  have hc := gwf_chain h3 (fun q hq hy => by
    have := h2 q hq
    unfold Hl.lexle at this
    simp only [gX, gY] at *
    omega)
  have hrow : ∀ v ∈ m :: r, v.length = 2 ∧ (0 ≤ geti v 0 ∧ geti v 0 ≤ B) ∧ (0 ≤ geti v 1 ∧ geti v 1 ≤ B) := fun v hv => by
    rcases List.mem_cons.1 hv with rfl | hv
    · exact hp _ h1
    · exact hp _ (hc.2 v hv)
  refine ⟨by simp, ?_, hrow, ch_get hc.1⟩
  have := ch_len hc.1 (fun v hv => (hrow v hv).2.2.1)
  have := (hp m h1).2.2.2
  rw [List.length_cons]
  omega

/-! ### The vertices exist -/
theorem best_ex (xss : List (List Int)) (a : List Int) : ∀ i, i ≤ xss.length → ∃ o, BestOk xss a i o
  | 0, _ => ⟨none, fun q hq => by obtain ⟨j, hj, _⟩ := hq; omega⟩
  | i + 1, hi => by
    obtain ⟨o, ho⟩ := best_ex xss a i (by omega)
    have esp := sp_succ xss i
    cases o with
    | none =>
      by_cases hy : gY (gets xss (i : Nat)) < gY a
      · refine ⟨some i, hi, ?_⟩
        rw [← esp]
        exact Hl.next_first ho hy
      · refine ⟨none, ?_⟩
        simp only [BestOk, ← esp]
        rintro q (hq | rfl)
        · exact ho q hq
        · omega
    | some k =>
      obtain ⟨h1, h2⟩ := ho
      by_cases hy : gY (gets xss (i : Nat)) < gY a ∧ (Hl.cr gX gY a (gets xss (k : Nat)) (gets xss (i : Nat)) < 0 ∨ (Hl.cr gX gY a (gets xss (k : Nat)) (gets xss (i : Nat)) = 0 ∧ gY (gets xss (i : Nat)) < gY (gets xss (k : Nat))))
      · refine ⟨some i, hi, ?_⟩
        rw [← esp]
        exact Hl.next_new h2 hy.1 hy.2
      · refine ⟨some k, h1, ?_⟩
        rw [← esp]
        exact Hl.next_keep h2 fun hz => by omega
theorem sp_mem (xss : List (List Int)) : Sp xss xss.length = (· ∈ xss) := funext fun q => propext (sp_all xss q)
theorem chain_ex {xss : List (List Int)} (hp : ∀ r ∈ xss, 0 ≤ geti r 1) : ∀ (n : Nat) (a : List Int), a ∈ xss → geti a 1 ≤ n → ∃ l, Hl.GWf gX gY (· ∈ xss) (a :: l)
  | n, a, ha, hn => by
    obtain ⟨o, ho⟩ := best_ex xss a xss.length (Nat.le_refl _)
    cases o with
    | none => exact ⟨[], fun q hq => ho q ((sp_all xss q).2 hq)⟩
    | some k =>
      obtain ⟨h1, h2⟩ := ho
      rw [sp_mem] at h2
      have hlt := h2.2.1
      have hpos := hp _ h2.1
      simp only [gY] at hlt
      match n with
      | 0 => omega
      | n + 1 =>
        obtain ⟨l, hl⟩ := chain_ex hp n _ h2.1 (by omega)
        exact ⟨_ :: l, h2, hl⟩
theorem first_ex (xss : List (List Int)) : ∀ i, i < xss.length → ∃ m, m < xss.length ∧ ∀ q, Sp xss (i + 1) q → Hl.lexle gX gY (gets xss (m : Nat)) q
  | 0, h => ⟨0, h, fun q hq => by obtain ⟨j, hj, rfl⟩ := hq; obtain rfl : j = 0 := by omega
                                  unfold Hl.lexle; omega⟩
  | i + 1, h => by
    obtain ⟨m, h1, h2⟩ := first_ex xss i (by omega)
    rw [← sp_succ]
    by_cases hc : Hl.lexle gX gY (gets xss (m : Nat)) (gets xss ((i + 1 : Nat) : Int))
    · refine ⟨m, h1, ?_⟩
      rintro q (hq | rfl)
      · exact h2 q hq
      · exact hc
    · refine ⟨i + 1, h, ?_⟩
      rintro q (hq | rfl)
      · have := h2 q hq
        unfold Hl.lexle at *
        simp only [gX, gY] at *
        omega
      · unfold Hl.lexle; omega
theorem verts_ex {xss : List (List Int)} (h0 : 0 < xss.length) (hp : ∀ r ∈ xss, 0 ≤ geti r 1) : ∃ V, HasV xss V := by
  obtain ⟨m, h1, h2⟩ := first_ex xss (xss.length - 1) (by omega)
  rw [show xss.length - 1 + 1 = xss.length by omega, sp_mem] at h2
  have hm : gets xss (m : Nat) ∈ xss := gets_mem (by omega) (by omega)
  obtain ⟨l, hl⟩ := chain_ex hp (geti (gets xss (m : Nat)) 1).toNat _ hm (by have := hp _ hm; omega)
  exact ⟨_ :: l, _, _, rfl, hm, h2, hl⟩
theorem verts_ok {xss : List (List Int)} {B : Int} (h0 : 0 < xss.length) (hp : ∀ v ∈ xss, v.length = 2 ∧ (0 ≤ geti v 0 ∧ geti v 0 ≤ B) ∧ (0 ≤ geti v 1 ∧ geti v 1 ≤ B)) : VOk B (verts xss) := by
  obtain ⟨V, hV⟩ := verts_ex h0 (fun r hr => (hp r hr).2.2.1)
  rw [verts_eq (fun r hr => (hp r hr).1) hV]
  exact hasV_ok hp hV
theorem sup_rows {xss : List (List Int)} (h : isSup xss = true) : (0 < xss.length ∧ xss.length ≤ 200) ∧ ∀ v ∈ xss, v.length = 2 ∧ (0 ≤ geti v 0 ∧ geti v 0 ≤ 60) ∧ (0 ≤ geti v 1 ∧ geti v 1 ≤ 60) := by
  obtain ⟨h1, h2⟩ := isSup_of h
  refine ⟨by omega, fun v hv => ?_⟩
  obtain ⟨j, hj⟩ := List.getElem?_of_mem hv
  have hl := (List.getElem?_eq_some_iff.1 hj).1
  have := h2 j hl
  unfold SR at this
  have e : gets xss (j : Nat) = v := by simp [gets, hj]
  rw [e] at this
  exact this
theorem sup_pb {xss : List (List Int)} (h : isSup xss = true) : ∀ r ∈ xss, PB r := fun r hr => by
  have := (sup_rows h).2 r hr
  unfold PB; omega
theorem sup_ok {xss : List (List Int)} (h : isSup xss = true) : VOk 60 (verts xss) := verts_ok (sup_rows h).1.1 (sup_rows h).2

/-! ### Edges -/
def edL (V : List (List Int)) (n : Nat) : List (List Int) := (List.range n).map fun (k : Nat) => [geti (gets V ((k : Nat) + 1 : Int)) 0 - geti (gets V (k : Nat)) 0, geti (gets V (k : Nat)) 1 - geti (gets V ((k : Nat) + 1 : Int)) 1]
theorem edL_len (V : List (List Int)) (n : Nat) : (edL V n).length = n := by simp [edL]
theorem edL_succ (V : List (List Int)) (n : Nat) : edL V n ++ [[geti (gets V ((n : Nat) + 1 : Int)) 0 - geti (gets V (n : Nat)) 0, geti (gets V (n : Nat)) 1 - geti (gets V ((n : Nat) + 1 : Int)) 1]] = edL V (n + 1) := by simp [edL, List.range_succ]

theorem edgesBetween_c {B : Int} (hB : B ≤ 100000) (V : List (List Int)) (h : VOk B V) : AFn Try.prog 42 [.intss V] (IsIntss 38 2 (edL V (V.length - 1))) := by
  have hl := h.len
  have hp := h.pos
  (refine AFn.start Try.func42 Try.ntmps42 rfl (by kernel_rfl) fun hk => ?_; simp only [Env.start, enumF, List.length_cons, List.length_nil, Nat.reduceAdd, Nat.reduceSub, List.cons_append, List.nil_append])
  repeat' (first | (apply AOps.nil; try simp only [List.nil_append, List.cons_append, List.set_cons_zero, List.set_cons_succ, List.length_cons, List.length_nil, Nat.reduceAdd, AV.sh, AV.sh1, AV.sh0, AO.sh, List.map_cons, List.map_nil, Nat.zero_add, Nat.add_zero, setAll]) | (apply w_assign; exact rfl; exact rfl) | apply AWp.seq | apply AWp.region | apply AWp.block | ((apply w_bsr0); iterate 1 exact rfl))
  refine AWp.loop (ι := Nat) (fun i => ⟨45, [(0, .intss V), (3, .own 0), (4, .i (i + 1))]⟩) (fun i => [.sls 38 2 (edL V i)]) (fun i => i + 1 ≤ V.length) (fun i => V.length - i) 0 (by omega) ⟨lee rfl (by (repeat (first | exact le_nil | refine le_eq rfl rfl ?_))), by (repeat (first | exact lo_nil | refine lo_eq rfl ?_)), rfl, rfl⟩ ?_
  rintro i h0
  have e1 := edL_len V i
  by_cases hi : i + 1 < V.length
  · obtain ⟨p1, p2, p3⟩ := h.at i (by omega)
    obtain ⟨q1, q2, q3⟩ := h.at (i + 1) (by omega)
    have e2 := edL_succ V i
    have ei : (((i + 1 : Nat) : Nat) : Int) = (i : Int) + 1 := by omega
    rw [ei] at q1 q2 q3
    have ej : ((i : Int) + 1 - 1) = i := by omega
    have p1' := p1
    have p2' := p2
    have p3' := p3
    rw [← ej] at p1' p2' p3'
    have e2' : edL V i ++ [[geti (gets V ((i : Nat) + 1 : Int)) 0 - geti (gets V ((i : Int) + 1 - 1)) 0, geti (gets V ((i : Int) + 1 - 1)) 1 - geti (gets V ((i : Nat) + 1 : Int)) 1]] = edL V (i + 1) := by rw [ej]; exact e2
    repeat' (first | (apply AOps.nil; try simp only [List.nil_append, List.cons_append, List.set_cons_zero, List.set_cons_succ, List.length_cons, List.length_nil, Nat.reduceAdd, AV.sh, AV.sh1, AV.sh0, AO.sh, List.map_cons, List.map_nil, Nat.zero_add, Nat.add_zero, setAll]) | (apply w_move; exact rfl; exact rfl) | (apply w_assign; exact rfl; exact rfl) | apply AWp.seq | apply AWp.region | ((apply AWp.condP; exact rfl) <;> intro h) | apply AWp.block | apply AWp.ret | apply AWp.exit | apply AWp.skip | (apply w_len; exact rfl; exact rfl; first | exact .ints _ | exact .intss _ | exact .sli rfl | exact .sls rfl | exact .slr rfl | exact .orow rfl | exact .nil) | omega | ((apply w_lss); iterate 3 exact rfl))
    refine AWp.regionG [] (by kernel_rfl) (envC := ⟨45, [(0, .intss V), (3, .own 0), (4, .i (i + 1))]⟩) (osC := [.sls 38 2 (edL V i ++ [[geti (gets V ((i : Nat) + 1 : Int)) 0 - geti (gets V ((i : Int) + 1 - 1)) 0, geti (gets V ((i : Int) + 1 - 1)) 1 - geti (gets V ((i : Nat) + 1 : Int)) 1]])]) rfl rfl ?_ ?_
    · repeat' (first | (apply AOps.nil; try simp only [List.nil_append, List.cons_append, List.set_cons_zero, List.set_cons_succ, List.length_cons, List.length_nil, Nat.reduceAdd, AV.sh, AV.sh1, AV.sh0, AO.sh, List.map_cons, List.map_nil, Nat.zero_add, Nat.add_zero, setAll]) | (apply w_move; exact rfl; exact rfl) | (apply w_assign; exact rfl; exact rfl) | ((first | apply w_bsr1 | apply w_sub | apply w_idx | apply w_ld | apply w_bs2); iterate 3 exact rfl) | (apply w_appr; exact rfl; exact rfl; exact rfl; exact rfl; exact rfl; exact rfl; exact rfl; rotate_left 1; simp only [Env.mp, List.map_cons, List.map_nil, List.set_cons_zero, List.set_cons_succ, AV.kill, AV.kill1, AO.kill, AV.rin, AV.rin1, AV.noRow, AV.noRow1, AO.via, reduceIte, Nat.reduceEqDiff, Nat.reduceLT, Env.up, Nat.zero_ne_one, Nat.one_ne_zero, Nat.reduceAdd, List.cons_append, List.nil_append]; rotate_left 1) | apply AllOfG.nil | (apply AllOfG.consS; exact rfl; exact rfl) | (apply AAnyG.takeW; exact rfl; exact rfl; kernel_rfl; kernel_rfl) | (apply AAnyG.takeL; exact rfl; exact rfl; kernel_rfl) | (apply AAnyG.all; exact rfl) | (apply AAnyG.done; exact rfl) | omega | ((first | apply w_idxs | apply w_lds); iterate 3 exact rfl) | (apply inI_of <;> omega))
      all_goals (apply Or.inl; refine ⟨lee rfl ?_, ?_, rfl, rfl⟩; (focus ((repeat (first | exact le_nil | refine le_eq rfl rfl ?_)); done)); (focus ((repeat (first | exact lo_nil | refine lo_eq rfl ?_)); done)))
    repeat' (first | (apply AOps.nil; try simp only [List.nil_append, List.cons_append, List.set_cons_zero, List.set_cons_succ, List.length_cons, List.length_nil, Nat.reduceAdd, AV.sh, AV.sh1, AV.sh0, AO.sh, List.map_cons, List.map_nil, Nat.zero_add, Nat.add_zero, setAll]) | (apply w_move; exact rfl; exact rfl) | (apply w_assign; exact rfl; exact rfl) | apply AWp.region | ((apply w_add); iterate 3 exact rfl) | (apply inI_of <;> omega))
    exact ⟨i + 1, by omega, by omega, ⟨lee rfl (by (repeat (first | exact le_nil | refine le_eq rfl rfl ?_))), by (repeat (first | exact lo_nil | refine lo_eq (congrArg (AO.sls _ _) (e2')) ?_)), rfl, rfl⟩⟩
  · repeat' (first | (apply AOps.nil; try simp only [List.nil_append, List.cons_append, List.set_cons_zero, List.set_cons_succ, List.length_cons, List.length_nil, Nat.reduceAdd, AV.sh, AV.sh1, AV.sh0, AO.sh, List.map_cons, List.map_nil, Nat.zero_add, Nat.add_zero, setAll]) | (apply w_move; exact rfl; exact rfl) | (apply w_assign; exact rfl; exact rfl) | apply AWp.seq | apply AWp.region | ((apply AWp.condP; exact rfl) <;> intro h) | apply AWp.block | apply AWp.ret | apply AWp.exit | apply AWp.skip | (apply AWp.regionQ; kernel_rfl; kernel_rfl) | (apply w_len; exact rfl; exact rfl; first | exact .ints _ | exact .intss _ | exact .sli rfl | exact .sls rfl | exact .slr rfl | exact .orow rfl | exact .nil) | omega | ((apply w_lss); iterate 3 exact rfl))
    have e : i = V.length - 1 := by omega
    subst e
    exact ⟨_, _, _, .v1 Try.results42 rfl, .sls rfl, rfl, rfl⟩
theorem l15Edges_c {B : Int} (hB : B ≤ 100000) (V : List (List Int)) (h : VOk B V) : AFn Try.prog 43 [.intss V] (IsIntss 38 2 (edL V (V.length - 1))) := by
  have hl := h.len
  have hp := h.pos
  (refine AFn.start Try.func43 Try.ntmps43 rfl (by kernel_rfl) fun hk => ?_; simp only [Env.start, enumF, List.length_cons, List.length_nil, Nat.reduceAdd, Nat.reduceSub, List.cons_append, List.nil_append])
  repeat' (first | (apply AOps.nil; try simp only [List.nil_append, List.cons_append, List.set_cons_zero, List.set_cons_succ, List.length_cons, List.length_nil, Nat.reduceAdd, AV.sh, AV.sh1, AV.sh0, AO.sh, List.map_cons, List.map_nil, Nat.zero_add, Nat.add_zero, setAll]) | (apply w_assign; exact rfl; exact rfl) | apply AWp.seq | apply AWp.region | apply AWp.block | ((apply w_bsr0); iterate 1 exact rfl))
  refine AWp.loop (ι := Nat) (fun i => ⟨45, [(0, .intss V), (3, .own 0), (4, .i (i + 1))]⟩) (fun i => [.sls 38 2 (edL V i)]) (fun i => i + 1 ≤ V.length) (fun i => V.length - i) 0 (by omega) ⟨lee rfl (by (repeat (first | exact le_nil | refine le_eq rfl rfl ?_))), by (repeat (first | exact lo_nil | refine lo_eq rfl ?_)), rfl, rfl⟩ ?_
  rintro i h0
  have e1 := edL_len V i
  by_cases hi : i + 1 < V.length
  · obtain ⟨p1, p2, p3⟩ := h.at i (by omega)
    obtain ⟨q1, q2, q3⟩ := h.at (i + 1) (by omega)
    have e2 := edL_succ V i
    have ei : (((i + 1 : Nat) : Nat) : Int) = (i : Int) + 1 := by omega
    rw [ei] at q1 q2 q3
    have ej : ((i : Int) + 1 - 1) = i := by omega
    have p1' := p1
    have p2' := p2
    have p3' := p3
    rw [← ej] at p1' p2' p3'
    have e2' : edL V i ++ [[geti (gets V ((i : Nat) + 1 : Int)) 0 - geti (gets V ((i : Int) + 1 - 1)) 0, geti (gets V ((i : Int) + 1 - 1)) 1 - geti (gets V ((i : Nat) + 1 : Int)) 1]] = edL V (i + 1) := by rw [ej]; exact e2
    repeat' (first | (apply AOps.nil; try simp only [List.nil_append, List.cons_append, List.set_cons_zero, List.set_cons_succ, List.length_cons, List.length_nil, Nat.reduceAdd, AV.sh, AV.sh1, AV.sh0, AO.sh, List.map_cons, List.map_nil, Nat.zero_add, Nat.add_zero, setAll]) | (apply w_move; exact rfl; exact rfl) | (apply w_assign; exact rfl; exact rfl) | apply AWp.seq | apply AWp.region | ((apply AWp.condP; exact rfl) <;> intro h) | apply AWp.block | apply AWp.ret | apply AWp.exit | apply AWp.skip | (apply w_len; exact rfl; exact rfl; first | exact .ints _ | exact .intss _ | exact .sli rfl | exact .sls rfl | exact .slr rfl | exact .orow rfl | exact .nil) | omega | ((apply w_lss); iterate 3 exact rfl))
    refine AWp.regionG [] (by kernel_rfl) (envC := ⟨45, [(0, .intss V), (3, .own 0), (4, .i (i + 1))]⟩) (osC := [.sls 38 2 (edL V i ++ [[geti (gets V ((i : Nat) + 1 : Int)) 0 - geti (gets V ((i : Int) + 1 - 1)) 0, geti (gets V ((i : Int) + 1 - 1)) 1 - geti (gets V ((i : Nat) + 1 : Int)) 1]])]) rfl rfl ?_ ?_
    · repeat' (first | (apply AOps.nil; try simp only [List.nil_append, List.cons_append, List.set_cons_zero, List.set_cons_succ, List.length_cons, List.length_nil, Nat.reduceAdd, AV.sh, AV.sh1, AV.sh0, AO.sh, List.map_cons, List.map_nil, Nat.zero_add, Nat.add_zero, setAll]) | (apply w_move; exact rfl; exact rfl) | (apply w_assign; exact rfl; exact rfl) | ((first | apply w_bsr1 | apply w_sub | apply w_idx | apply w_ld | apply w_bs2); iterate 3 exact rfl) | (apply w_appr; exact rfl; exact rfl; exact rfl; exact rfl; exact rfl; exact rfl; exact rfl; rotate_left 1; simp only [Env.mp, List.map_cons, List.map_nil, List.set_cons_zero, List.set_cons_succ, AV.kill, AV.kill1, AO.kill, AV.rin, AV.rin1, AV.noRow, AV.noRow1, AO.via, reduceIte, Nat.reduceEqDiff, Nat.reduceLT, Env.up, Nat.zero_ne_one, Nat.one_ne_zero, Nat.reduceAdd, List.cons_append, List.nil_append]; rotate_left 1) | apply AllOfG.nil | (apply AllOfG.consS; exact rfl; exact rfl) | (apply AAnyG.takeW; exact rfl; exact rfl; kernel_rfl; kernel_rfl) | (apply AAnyG.takeL; exact rfl; exact rfl; kernel_rfl) | (apply AAnyG.all; exact rfl) | (apply AAnyG.done; exact rfl) | omega | ((first | apply w_idxs | apply w_lds); iterate 3 exact rfl) | (apply inI_of <;> omega))
      all_goals (apply Or.inl; refine ⟨lee rfl ?_, ?_, rfl, rfl⟩; (focus ((repeat (first | exact le_nil | refine le_eq rfl rfl ?_)); done)); (focus ((repeat (first | exact lo_nil | refine lo_eq rfl ?_)); done)))
    repeat' (first | (apply AOps.nil; try simp only [List.nil_append, List.cons_append, List.set_cons_zero, List.set_cons_succ, List.length_cons, List.length_nil, Nat.reduceAdd, AV.sh, AV.sh1, AV.sh0, AO.sh, List.map_cons, List.map_nil, Nat.zero_add, Nat.add_zero, setAll]) | (apply w_move; exact rfl; exact rfl) | (apply w_assign; exact rfl; exact rfl) | apply AWp.region | ((apply w_add); iterate 3 exact rfl) | (apply inI_of <;> omega))
    exact ⟨i + 1, by omega, by omega, ⟨lee rfl (by (repeat (first | exact le_nil | refine le_eq rfl rfl ?_))), by (repeat (first | exact lo_nil | refine lo_eq (congrArg (AO.sls _ _) (e2')) ?_)), rfl, rfl⟩⟩
  · repeat' (first | (apply AOps.nil; try simp only [List.nil_append, List.cons_append, List.set_cons_zero, List.set_cons_succ, List.length_cons, List.length_nil, Nat.reduceAdd, AV.sh, AV.sh1, AV.sh0, AO.sh, List.map_cons, List.map_nil, Nat.zero_add, Nat.add_zero, setAll]) | (apply w_move; exact rfl; exact rfl) | (apply w_assign; exact rfl; exact rfl) | apply AWp.seq | apply AWp.region | ((apply AWp.condP; exact rfl) <;> intro h) | apply AWp.block | apply AWp.ret | apply AWp.exit | apply AWp.skip | (apply AWp.regionQ; kernel_rfl; kernel_rfl) | (apply w_len; exact rfl; exact rfl; first | exact .ints _ | exact .intss _ | exact .sli rfl | exact .sls rfl | exact .slr rfl | exact .orow rfl | exact .nil) | omega | ((apply w_lss); iterate 3 exact rfl))
    have e : i = V.length - 1 := by omega
    subst e
    exact ⟨_, _, _, .v1 Try.results43 rfl, .sls rfl, rfl, rfl⟩

/-! ### Convenient polygons -/
def conv (V : List (List Int)) : Bool := decide (geti (gets V 0) 0 = 0 ∧ geti (gets V ((V.length : Int) - 1)) 1 = 0)
theorem isConvenient_c {B : Int} (V : List (List Int)) (h : VOk B V) : AFnV Try.prog 51 [.intss V] (.bool (conv V)) := by
  have hp := h.pos
  obtain ⟨p1, p2, p3⟩ := h.at 0 hp
  obtain ⟨q1, q2, q3⟩ := h.at (V.length - 1) (by omega)
  rw [show (((V.length - 1 : Nat) : Nat) : Int) = (V.length : Int) - 1 by omega] at q1 q2 q3
  simp only [Int.natCast_zero] at p1 p2 p3
  (refine AFnV.start Try.func51 Try.ntmps51 rfl (by kernel_rfl) fun hk0 => ?_; simp only [Env.start, enumF, List.length_cons, List.length_nil, Nat.reduceAdd, Nat.reduceSub, List.cons_append, List.nil_append])
  obtain ⟨hk, hl⟩ : ArgOk (.intss V) := hk0 _ (by simp)
  repeat' (first | (apply AOps.nil; try simp only [List.nil_append, List.cons_append, List.set_cons_zero, List.set_cons_succ, List.length_cons, List.length_nil, Nat.reduceAdd, AV.sh, AV.sh1, AV.sh0, AO.sh, List.map_cons, List.map_nil, Nat.zero_add, Nat.add_zero, setAll]) | ((apply AOps.splitP; exact rfl; exact rfl) <;> intro h) | (apply w_move; exact rfl; exact rfl) | (apply w_assign; exact rfl; exact rfl) | apply AWp.seq | apply AWp.region | apply AWp.ret | (apply w_skip; exact rfl) | (apply w_pickT; exact rfl; exact rfl; exact rfl) | (apply w_pickF; exact rfl; exact rfl; exact rfl) | (apply w_len; exact rfl; exact rfl; first | exact .ints _ | exact .intss _ | exact .sli rfl | exact .sls rfl | exact .slr rfl | exact .orow rfl | exact .nil) | ((first | apply w_eql | apply w_sub | apply w_idx | apply w_ld); iterate 3 exact rfl) | ((first | apply w_idxs | apply w_lds); iterate 3 exact rfl) | (apply inI_of <;> omega) | omega)
  all_goals
    refine .bool Try.results51 rfl ?_
    unfold conv
    simp
    try omega
theorem l15Convenient_c {B : Int} (V : List (List Int)) (h : VOk B V) : AFnV Try.prog 61 [.intss V] (.bool (conv V)) := by
  have hp := h.pos
  obtain ⟨p1, p2, p3⟩ := h.at 0 hp
  obtain ⟨q1, q2, q3⟩ := h.at (V.length - 1) (by omega)
  rw [show (((V.length - 1 : Nat) : Nat) : Int) = (V.length : Int) - 1 by omega] at q1 q2 q3
  simp only [Int.natCast_zero] at p1 p2 p3
  (refine AFnV.start Try.func61 Try.ntmps61 rfl (by kernel_rfl) fun hk0 => ?_; simp only [Env.start, enumF, List.length_cons, List.length_nil, Nat.reduceAdd, Nat.reduceSub, List.cons_append, List.nil_append])
  obtain ⟨hk, hl⟩ : ArgOk (.intss V) := hk0 _ (by simp)
  repeat' (first | (apply AOps.nil; try simp only [List.nil_append, List.cons_append, List.set_cons_zero, List.set_cons_succ, List.length_cons, List.length_nil, Nat.reduceAdd, AV.sh, AV.sh1, AV.sh0, AO.sh, List.map_cons, List.map_nil, Nat.zero_add, Nat.add_zero, setAll]) | ((apply AOps.splitP; exact rfl; exact rfl) <;> intro h) | (apply w_move; exact rfl; exact rfl) | (apply w_assign; exact rfl; exact rfl) | apply AWp.seq | apply AWp.region | apply AWp.ret | (apply w_skip; exact rfl) | (apply w_pickT; exact rfl; exact rfl; exact rfl) | (apply w_pickF; exact rfl; exact rfl; exact rfl) | (apply w_len; exact rfl; exact rfl; first | exact .ints _ | exact .intss _ | exact .sli rfl | exact .sls rfl | exact .slr rfl | exact .orow rfl | exact .nil) | ((first | apply w_eql | apply w_sub | apply w_idx | apply w_ld); iterate 3 exact rfl) | ((first | apply w_idxs | apply w_lds); iterate 3 exact rfl) | (apply inI_of <;> omega) | omega)
  all_goals
    refine .bool Try.results61 rfl ?_
    unfold conv
    simp
    try omega

/-! ### Areas -/
def arI (V : List (List Int)) : Nat → Int
  | 0 => 0
  | k + 1 => arI V k + (geti (gets V ((k : Nat) + 1 : Int)) 0 * geti (gets V ((k : Nat) + 1 - 1 : Int)) 1 - geti (gets V ((k : Nat) + 1 - 1 : Int)) 0 * geti (gets V ((k : Nat) + 1 : Int)) 1)
def arS (V : List (List Int)) : Nat → Int
  | 0 => 0
  | k + 1 => arS V k + (geti (gets V ((k : Nat) + 1 : Int)) 0 - geti (gets V ((k : Nat) + 1 - 1 : Int)) 0) * (geti (gets V ((k : Nat) + 1 : Int)) 1 + geti (gets V ((k : Nat) + 1 - 1 : Int)) 1)
theorem ar_rel (V : List (List Int)) : ∀ k : Nat, arS V k = arI V k + geti (gets V (k : Nat)) 0 * geti (gets V (k : Nat)) 1 - geti (gets V 0) 0 * geti (gets V 0) 1
  | 0 => by simp [arS, arI]
  | k + 1 => by
    have ih := ar_rel V k
    simp only [arS, arI, ih]
    rw [show ((k : Nat) + 1 - 1 : Int) = k by omega, show (((k + 1 : Nat) : Nat) : Int) = (k : Int) + 1 by omega]
    grind
theorem mulBx {x y a b : Int} (hx : -a ≤ x ∧ x ≤ a) (hy : -b ≤ y ∧ y ≤ b) : -(a * b) ≤ x * y ∧ x * y ≤ a * b := by
  have := Int.mul_nonneg (show 0 ≤ a - x by omega) (show 0 ≤ b + y by omega)
  have := Int.mul_nonneg (show 0 ≤ a + x by omega) (show 0 ≤ b - y by omega)
  have := Int.mul_nonneg (show 0 ≤ a - x by omega) (show 0 ≤ b - y by omega)
  have := Int.mul_nonneg (show 0 ≤ a + x by omega) (show 0 ≤ b + y by omega)
  constructor <;> grind
section
variable {B : Int} {V : List (List Int)}
theorem ar_st (hB : B ≤ 100000) (h : VOk B V) (k : Nat) (hk : k + 1 < V.length) :
    ((gets V ((k : Nat) + 1 : Int)).length = 2 ∧ (0 ≤ geti (gets V ((k : Nat) + 1 : Int)) 0 ∧ geti (gets V ((k : Nat) + 1 : Int)) 0 ≤ 100000) ∧ (0 ≤ geti (gets V ((k : Nat) + 1 : Int)) 1 ∧ geti (gets V ((k : Nat) + 1 : Int)) 1 ≤ 100000)) ∧
    ((gets V ((k : Nat) + 1 - 1 : Int)).length = 2 ∧ (0 ≤ geti (gets V ((k : Nat) + 1 - 1 : Int)) 0 ∧ geti (gets V ((k : Nat) + 1 - 1 : Int)) 0 ≤ 100000) ∧ (0 ≤ geti (gets V ((k : Nat) + 1 - 1 : Int)) 1 ∧ geti (gets V ((k : Nat) + 1 - 1 : Int)) 1 ≤ 100000)) := by
  obtain ⟨p1, p2, p3⟩ := h.at k (by omega)
  obtain ⟨q1, q2, q3⟩ := h.at (k + 1) (by omega)
  rw [show (((k + 1 : Nat) : Nat) : Int) = (k : Int) + 1 by omega] at q1 q2 q3
  rw [show ((k : Nat) + 1 - 1 : Int) = k by omega]
  omega
theorem arI_in (hB : B ≤ 100000) (h : VOk B V) : ∀ k : Nat, k < V.length → -(20000000000 * (k : Int)) ≤ arI V k ∧ arI V k ≤ 20000000000 * (k : Int)
  | 0, _ => by simp [arI]
  | k + 1, hk => by
    have ih := arI_in hB h k (by omega)
    obtain ⟨⟨q1, q2, q3⟩, ⟨p1, p2, p3⟩⟩ := ar_st hB h k hk
    have m1 := mulBx (x := geti (gets V ((k : Nat) + 1 : Int)) 0) (y := geti (gets V ((k : Nat) + 1 - 1 : Int)) 1) (a := 100000) (b := 100000) (by omega) (by omega)
    have m2 := mulBx (x := geti (gets V ((k : Nat) + 1 - 1 : Int)) 0) (y := geti (gets V ((k : Nat) + 1 : Int)) 1) (a := 100000) (b := 100000) (by omega) (by omega)
    simp only [arI]
    omega
theorem arS_in (hB : B ≤ 100000) (h : VOk B V) : ∀ k : Nat, k < V.length → -(20000000000 * (k : Int)) ≤ arS V k ∧ arS V k ≤ 20000000000 * (k : Int)
  | 0, _ => by simp [arS]
  | k + 1, hk => by
    have ih := arS_in hB h k (by omega)
    obtain ⟨⟨q1, q2, q3⟩, ⟨p1, p2, p3⟩⟩ := ar_st hB h k hk
    have m1 := mulBx (x := geti (gets V ((k : Nat) + 1 : Int)) 0 - geti (gets V ((k : Nat) + 1 - 1 : Int)) 0) (y := geti (gets V ((k : Nat) + 1 : Int)) 1 + geti (gets V ((k : Nat) + 1 - 1 : Int)) 1) (a := 100000) (b := 200000) (by omega) (by omega)
    simp only [arS]
    omega
end

theorem areaOf_c {B : Int} (hB : B ≤ 100000) (V : List (List Int)) (h : VOk B V) : AFnV Try.prog 56 [.intss V] (.int .i64 (arI V (V.length - 1))) := by
  have hp := h.pos
  have hl := h.len
  (refine AFnV.start Try.func56 Try.ntmps56 rfl (by kernel_rfl) fun hk => ?_; simp only [Env.start, enumF, List.length_cons, List.length_nil, Nat.reduceAdd, Nat.reduceSub, List.cons_append, List.nil_append])
  repeat' (first | (apply AOps.nil; try simp only [List.nil_append, List.cons_append, List.set_cons_zero, List.set_cons_succ, List.length_cons, List.length_nil, Nat.reduceAdd, AV.sh, AV.sh1, AV.sh0, AO.sh, List.map_cons, List.map_nil, Nat.zero_add, Nat.add_zero, setAll]) | (apply w_assign; exact rfl; exact rfl) | apply AWp.seq | apply AWp.region | apply AWp.block)
  refine AWp.loop (ι := Nat) (fun i => ⟨43, [(0, .intss V), (3, .i (arI V i)), (4, .i (i + 1))]⟩) (fun _ => []) (fun i => i + 1 ≤ V.length) (fun i => V.length - i) 0 (by omega) ⟨lee rfl (by (repeat (first | exact le_nil | refine le_eq rfl rfl ?_))), by (repeat (exact lo_nil)), rfl, rfl⟩ ?_
  rintro i h0
  by_cases hi : i + 1 < V.length
  · obtain ⟨⟨q1, q2, q3⟩, ⟨p1, p2, p3⟩⟩ := ar_st hB h i hi
    have m1 := mulBx (x := geti (gets V ((i : Nat) + 1 : Int)) 0) (y := geti (gets V ((i : Nat) + 1 - 1 : Int)) 1) (a := 100000) (b := 100000) (by omega) (by omega)
    have m2 := mulBx (x := geti (gets V ((i : Nat) + 1 - 1 : Int)) 0) (y := geti (gets V ((i : Nat) + 1 : Int)) 1) (a := 100000) (b := 100000) (by omega) (by omega)
    have a1 := arI_in hB h i (by omega)
    have a2 := arI_in hB h (i + 1) hi
    simp only [arI] at a2
    repeat' (first | (apply AOps.nil; try simp only [List.nil_append, List.cons_append, List.set_cons_zero, List.set_cons_succ, List.length_cons, List.length_nil, Nat.reduceAdd, AV.sh, AV.sh1, AV.sh0, AO.sh, List.map_cons, List.map_nil, Nat.zero_add, Nat.add_zero, setAll]) | (apply w_move; exact rfl; exact rfl) | (apply w_assign; exact rfl; exact rfl) | apply AWp.seq | apply AWp.region | ((apply AWp.condP; exact rfl) <;> intro h) | apply AWp.block | apply AWp.ret | apply AWp.exit | apply AWp.skip | (apply AWp.regionQ; kernel_rfl; kernel_rfl) | (apply w_len; exact rfl; exact rfl; first | exact .ints _ | exact .intss _ | exact .sli rfl | exact .sls rfl | exact .slr rfl | exact .orow rfl | exact .nil) | omega | ((first | apply w_lss | apply w_add | apply w_sub | apply w_mul | apply w_idx | apply w_ld); iterate 3 exact rfl) | ((first | apply w_idxs | apply w_lds); iterate 3 exact rfl) | (apply inI_of <;> omega))
    exact ⟨i + 1, by omega, by omega, ⟨lee rfl (by (repeat (first | exact le_nil | refine le_eq rfl rfl ?_))), by (repeat (exact lo_nil)), rfl, rfl⟩⟩
  · repeat' (first | (apply AOps.nil; try simp only [List.nil_append, List.cons_append, List.set_cons_zero, List.set_cons_succ, List.length_cons, List.length_nil, Nat.reduceAdd, AV.sh, AV.sh1, AV.sh0, AO.sh, List.map_cons, List.map_nil, Nat.zero_add, Nat.add_zero, setAll]) | (apply w_move; exact rfl; exact rfl) | (apply w_assign; exact rfl; exact rfl) | apply AWp.seq | apply AWp.region | ((apply AWp.condP; exact rfl) <;> intro h) | apply AWp.block | apply AWp.ret | apply AWp.exit | apply AWp.skip | (apply AWp.regionQ; kernel_rfl; kernel_rfl) | (apply w_len; exact rfl; exact rfl; first | exact .ints _ | exact .intss _ | exact .sli rfl | exact .sls rfl | exact .slr rfl | exact .orow rfl | exact .nil) | omega | ((apply w_lss); iterate 3 exact rfl))
    have e : i = V.length - 1 := by omega
    subst e
    exact .int Try.results56 rfl rfl
theorem l15Area_c {B : Int} (hB : B ≤ 100000) (V : List (List Int)) (h : VOk B V) (hc : conv V = true) : AFnV Try.prog 58 [.intss V] (.int .i64 (arI V (V.length - 1))) := by
  have hp := h.pos
  have hl := h.len
  have ea : arS V (V.length - 1) = arI V (V.length - 1) := by
    rw [ar_rel]
    simp [conv] at hc
    rw [hc.1, show (((V.length - 1 : Nat) : Nat) : Int) = (V.length : Int) - 1 by omega, hc.2]
    simp
  rw [← ea]
  (refine AFnV.start Try.func58 Try.ntmps58 rfl (by kernel_rfl) fun hk => ?_; simp only [Env.start, enumF, List.length_cons, List.length_nil, Nat.reduceAdd, Nat.reduceSub, List.cons_append, List.nil_append])
  repeat' (first | (apply AOps.nil; try simp only [List.nil_append, List.cons_append, List.set_cons_zero, List.set_cons_succ, List.length_cons, List.length_nil, Nat.reduceAdd, AV.sh, AV.sh1, AV.sh0, AO.sh, List.map_cons, List.map_nil, Nat.zero_add, Nat.add_zero, setAll]) | (apply w_assign; exact rfl; exact rfl) | apply AWp.seq | apply AWp.region | apply AWp.block)
  refine AWp.loop (ι := Nat) (fun i => ⟨43, [(0, .intss V), (3, .i (arS V i)), (4, .i (i + 1))]⟩) (fun _ => []) (fun i => i + 1 ≤ V.length) (fun i => V.length - i) 0 (by omega) ⟨lee rfl (by (repeat (first | exact le_nil | refine le_eq rfl rfl ?_))), by (repeat (exact lo_nil)), rfl, rfl⟩ ?_
  rintro i h0
  by_cases hi : i + 1 < V.length
  · obtain ⟨⟨q1, q2, q3⟩, ⟨p1, p2, p3⟩⟩ := ar_st hB h i hi
    have m1 := mulBx (x := geti (gets V ((i : Nat) + 1 : Int)) 0 - geti (gets V ((i : Nat) + 1 - 1 : Int)) 0) (y := geti (gets V ((i : Nat) + 1 : Int)) 1 + geti (gets V ((i : Nat) + 1 - 1 : Int)) 1) (a := 100000) (b := 200000) (by omega) (by omega)
    have a1 := arS_in hB h i (by omega)
    have a2 := arS_in hB h (i + 1) hi
    simp only [arS] at a2
    repeat' (first | (apply AOps.nil; try simp only [List.nil_append, List.cons_append, List.set_cons_zero, List.set_cons_succ, List.length_cons, List.length_nil, Nat.reduceAdd, AV.sh, AV.sh1, AV.sh0, AO.sh, List.map_cons, List.map_nil, Nat.zero_add, Nat.add_zero, setAll]) | (apply w_move; exact rfl; exact rfl) | (apply w_assign; exact rfl; exact rfl) | apply AWp.seq | apply AWp.region | ((apply AWp.condP; exact rfl) <;> intro h) | apply AWp.block | apply AWp.ret | apply AWp.exit | apply AWp.skip | (apply AWp.regionQ; kernel_rfl; kernel_rfl) | (apply w_len; exact rfl; exact rfl; first | exact .ints _ | exact .intss _ | exact .sli rfl | exact .sls rfl | exact .slr rfl | exact .orow rfl | exact .nil) | omega | ((first | apply w_lss | apply w_add | apply w_sub | apply w_mul | apply w_idx | apply w_ld); iterate 3 exact rfl) | ((first | apply w_idxs | apply w_lds); iterate 3 exact rfl) | (apply inI_of <;> omega))
    exact ⟨i + 1, by omega, by omega, ⟨lee rfl (by (repeat (first | exact le_nil | refine le_eq rfl rfl ?_))), by (repeat (exact lo_nil)), rfl, rfl⟩⟩
  · repeat' (first | (apply AOps.nil; try simp only [List.nil_append, List.cons_append, List.set_cons_zero, List.set_cons_succ, List.length_cons, List.length_nil, Nat.reduceAdd, AV.sh, AV.sh1, AV.sh0, AO.sh, List.map_cons, List.map_nil, Nat.zero_add, Nat.add_zero, setAll]) | (apply w_move; exact rfl; exact rfl) | (apply w_assign; exact rfl; exact rfl) | apply AWp.seq | apply AWp.region | ((apply AWp.condP; exact rfl) <;> intro h) | apply AWp.block | apply AWp.ret | apply AWp.exit | apply AWp.skip | (apply AWp.regionQ; kernel_rfl; kernel_rfl) | (apply w_len; exact rfl; exact rfl; first | exact .ints _ | exact .intss _ | exact .sli rfl | exact .sls rfl | exact .slr rfl | exact .orow rfl | exact .nil) | omega | ((apply w_lss); iterate 3 exact rfl))
    have e : i = V.length - 1 := by omega
    subst e
    exact .int Try.results58 rfl rfl
end Go.Proofs.Ythlfdhooiekgjaa
/-
  The hull of all sums of the vertices of two hulls is the chain of all their edges, put together. No condition.
-/
namespace Go.Proofs.Ythlfdhooiekgjaa
open Go Go.RowKit

def addR (v w : List Int) : List Int := [geti v 0 + geti w 0, geti v 1 + geti w 1]
/-- The sums of the first n of V and all of W. -/
def sumsI (V W : List (List Int)) (n : Nat) : List (List Int) := (V.take n).flatMap fun v => W.map (addR v)
theorem sumsI_succ (V W : List (List Int)) (n : Nat) (h : n < V.length) : sumsI V W (n + 1) = sumsI V W n ++ W.map (addR (V.getD n [])) := by
  unfold sumsI
  rw [List.take_add_one, List.getElem?_eq_getElem h, List.getD_eq_getElem?_getD, List.getElem?_eq_getElem h, List.flatMap_append]
  simp
theorem sumsI_len (V W : List (List Int)) : ∀ n, n ≤ V.length → (sumsI V W n).length = n * W.length
  | 0, _ => by simp [sumsI]
  | n + 1, h => by rw [sumsI_succ V W n h, List.length_append, sumsI_len V W n (by omega), List.length_map, Nat.add_mul, Nat.one_mul]
theorem sumsI_mem {V W : List (List Int)} {q : List Int} : q ∈ sumsI V W V.length ↔ ∃ v ∈ V, ∃ w ∈ W, q = addR v w := by
  unfold sumsI
  rw [List.take_length, List.mem_flatMap]
  constructor
  · rintro ⟨v, hv, hq⟩
    obtain ⟨w, hw, rfl⟩ := List.mem_map.1 hq
    exact ⟨v, hv, w, hw, rfl⟩
  · rintro ⟨v, hv, w, hw, rfl⟩
    exact ⟨v, hv, List.mem_map.2 ⟨w, hw, rfl⟩⟩

/-! ### A hull is the chain of its edges, which are in order -/
theorem edL_gD (V : List (List Int)) (n k : Nat) (h : k < n) : (edL V n).getD k [] = [geti (V.getD (k + 1) []) 0 - geti (V.getD k []) 0, geti (V.getD k []) 1 - geti (V.getD (k + 1) []) 1] := by
  have e1 : gets V (k : Nat) = V.getD k [] := by simp [gets, List.getD_eq_getElem?_getD]
  have e2 : gets V ((k : Nat) + 1 : Int) = V.getD (k + 1) [] := by
    rw [show ((k : Nat) + 1 : Int) = ((k + 1 : Nat) : Int) by omega]
    simp only [gets, Int.toNat_natCast, List.getD_eq_getElem?_getD]
  unfold edL
  rw [List.getD_eq_getElem?_getD, List.getElem?_map, List.getElem?_range h, ← e1, ← e2]; rfl
theorem vf_ed {V : List (List Int)} (hr : ∀ v ∈ V, v.length = 2) (h0 : 0 < V.length) : vfP (V.getD 0 []) (edL V (V.length - 1)) = V := by
  have key : ∀ n, n < V.length → (vfP (V.getD 0 []) (edL V (V.length - 1))).getD n [] = V.getD n [] := by
    intro n
    induction n with
    | zero => intro _; exact vfP_0 _ _
    | succ n ih =>
      intro h
      rw [vfP_succ _ _ _ (by rw [edL_len]; omega), ih (by omega), edL_gD _ _ _ (by omega)]
      have hn : (V.getD (n + 1) []).length = 2 := hr _ (by rw [List.getD_eq_getElem?_getD, List.getElem?_eq_getElem h]; exact List.getElem_mem _)
      refine row2_ext rfl hn ?_ ?_
      · show geti (V.getD n []) 0 + (geti (V.getD (n + 1) []) 0 - geti (V.getD n []) 0) = _; omega
      · show geti (V.getD n []) 1 - (geti (V.getD n []) 1 - geti (V.getD (n + 1) []) 1) = _; omega
  have hl : (vfP (V.getD 0 []) (edL V (V.length - 1))).length = V.length := by rw [vfP_len, edL_len]; omega
  apply List.ext_getElem hl
  intro n h1 h2
  have := key n h2
  rw [List.getD_eq_getElem?_getD (l := vfP _ _), List.getElem?_eq_getElem h1, List.getD_eq_getElem?_getD (i := n), List.getElem?_eq_getElem h2] at this
  exact this
theorem ed_row {V : List (List Int)} {B : Int} (h : VOk B V) {e : List Int} (he : e ∈ edL V (V.length - 1)) : e.length = 2 ∧ (1 ≤ geti e 0 ∧ geti e 0 ≤ B) ∧ (1 ≤ geti e 1 ∧ geti e 1 ≤ B) := by
  unfold edL at he
  obtain ⟨k, hk, rfl⟩ := List.mem_map.1 he
  have hk := List.mem_range.1 hk
  obtain ⟨i1, i2⟩ := h.inc k (by omega)
  obtain ⟨p1, p2, p3⟩ := h.at k (by omega)
  obtain ⟨q1, q2, q3⟩ := h.at (k + 1) (by omega)
  rw [show (((k + 1 : Nat) : Nat) : Int) = (k : Int) + 1 by omega] at q1 q2 q3
  refine ⟨rfl, ?_, ?_⟩
  · show 1 ≤ geti (gets V ((k : Nat) + 1 : Int)) 0 - geti (gets V (k : Nat)) 0 ∧ _ ≤ B
    refine ⟨by omega, ?_⟩
    show geti (gets V ((k : Nat) + 1 : Int)) 0 - geti (gets V (k : Nat)) 0 ≤ B
    omega
  · show 1 ≤ geti (gets V (k : Nat)) 1 - geti (gets V ((k : Nat) + 1 : Int)) 1 ∧ _ ≤ B
    refine ⟨by omega, ?_⟩
    show geti (gets V (k : Nat)) 1 - geti (gets V ((k : Nat) + 1 : Int)) 1 ≤ B
    omega
/-- Consecutive corners turn. -/
theorem gwf_turn {S : List Int → Prop} : ∀ {V : List (List Int)}, Hl.GWf gX gY S V → ∀ n, n + 2 < V.length → 0 < Hl.cr gX gY (V.getD n []) (V.getD (n + 1) []) (V.getD (n + 2) [])
  | [], _, n, h => by simp at h
  | [a], _, n, h => by simp at h
  | [a, b], _, n, h => by simp at h; omega
  | a :: b :: c :: r, hg, 0, _ => by
    obtain ⟨⟨h1, h2, h3⟩, ⟨h4, h5, _⟩, _⟩ := hg
    have := h3 c h4 (by omega)
    show 0 < Hl.cr gX gY a b c
    rcases Int.lt_or_eq_of_le this.1 with h | h
    · exact h
    · have := this.2 h.symm; omega
  | a :: b :: c :: r, hg, n + 1, h => gwf_turn (V := b :: c :: r) hg.2 n (by simpa using h)
theorem pair_chain {R : List Int → List Int → Prop} : ∀ {L : List (List Int)}, (∀ a b c, a ∈ L → b ∈ L → c ∈ L → R a b → R b c → R a c) → (∀ n, n + 1 < L.length → R (L.getD n []) (L.getD (n + 1) [])) → L.Pairwise R
  | [], _, _ => List.Pairwise.nil
  | [a], _, _ => by simp
  | a :: b :: L, ht, hc => by
    have ih : (b :: L).Pairwise R := pair_chain (fun x y z hx hy hz => ht x y z (by simp [hx]) (by simp [hy]) (by simp [hz])) fun n hn => hc (n + 1) (by simpa using hn)
    have hab : R a b := hc 0 (by simp)
    refine List.pairwise_cons.2 ⟨fun x hx => ?_, ih⟩
    rcases List.mem_cons.1 hx with rfl | hx
    · exact hab
    · exact ht a b x (by simp) (by simp) (by simp [hx]) hab ((List.pairwise_cons.1 ih).1 x hx)
theorem ed_stS {xss V : List (List Int)} {B : Int} (hV : HasV xss V) (h : VOk B V) : StS (edL V (V.length - 1)) := by
  have hp : ∀ e ∈ edL V (V.length - 1), 1 ≤ geti e 1 := fun e he => (ed_row h he).2.2.1
  refine pair_chain (fun a b c ha hb hc h1 h2 => wS_le (hp a ha) (hp b hb) (hp c hc) h1 h2) fun n hn => ?_
  rw [edL_len] at hn
  obtain ⟨m, r, e, _, _, hg⟩ := hV
  have := gwf_turn hg n (by rw [← e]; omega)
  rw [← e] at this
  rw [edL_gD _ _ _ (by omega), edL_gD _ _ _ (by omega)]
  generalize V.getD n [] = a at *
  generalize V.getD (n + 1) [] = b at *
  generalize V.getD (n + 1 + 1) [] = c at *
  have e2 : wS [geti b 0 - geti a 0, geti a 1 - geti b 1] [geti c 0 - geti b 0, geti b 1 - geti c 1] = Hl.cr gX gY a b c := by
    unfold wS Hl.cr
    show (geti a 1 - geti b 1) * (geti c 0 - geti b 0) - (geti b 0 - geti a 0) * (geti b 1 - geti c 1) = _
    simp only [gX, gY]
    grind
  rw [e2]
  omega

/-- The hull of all sums. -/
theorem sum_hull {xss yss V W L : List (List Int)} (hV : HasV xss V) (hW : HasV yss W) (oV : VOk 60 V) (oW : VOk 60 W) (hJ : JoinOf (edL V (V.length - 1) ++ edL W (W.length - 1)) L) :
    verts (sumsI V W V.length) = vfP (addR (V.getD 0 []) (W.getD 0 [])) L := by
  have rV : ∀ v ∈ V, v.length = 2 := fun v hv => (oV.row v hv).1
  have rW : ∀ v ∈ W, v.length = 2 := fun v hv => (oW.row v hv).1
  have eV := vf_ed rV oV.pos
  have eW := vf_ed rW oW.pos
  have sV := ed_stS hV oV
  have sW := ed_stS hW oW
  have pV : ∀ e ∈ edL V (V.length - 1), EP e := fun e he => by have := ed_row oV he; unfold EP; omega
  have pW : ∀ e ∈ edL W (W.length - 1), EP e := fun e he => by have := ed_row oW he; unfold EP; omega
  have v0 : (V.getD 0 []).length = 2 := rV _ (by have := oV.pos; rw [List.getD_eq_getElem?_getD, List.getElem?_eq_getElem this]; exact List.getElem_mem _)
  have w0 : (W.getD 0 []).length = 2 := rW _ (by have := oW.pos; rw [List.getD_eq_getElem?_getD, List.getElem?_eq_getElem this]; exact List.getElem_mem _)
  have vm : ∀ v, v ∈ V ↔ v ∈ vfP (V.getD 0 []) (edL V (V.length - 1)) := fun v => by rw [eV]
  have wm : ∀ v, v ∈ W ↔ v ∈ vfP (W.getD 0 []) (edL W (W.length - 1)) := fun v => by rw [eW]
  generalize V.getD 0 [] = a at *
  generalize W.getD 0 [] = b at *
  generalize edL V (V.length - 1) = Ea at *
  generalize edL W (W.length - 1) = Eb at *
  refine verts_eq (fun r hr => ?_) (vf_has (xss := Ea ++ Eb) ?_ hJ (fun q hq => ?_) fun q hq => ?_)
  · obtain ⟨v, _, w, _, rfl⟩ := sumsI_mem.1 hr
    rfl
  · intro e he
    rcases List.mem_append.1 he with he | he
    · exact pV e he
    · exact pW e he
  · obtain ⟨v, hv, w, hw, rfl⟩ := sumsI_mem.1 hq
    obtain ⟨Ta, Ua, ea, a0, a1⟩ := vfP_of ((vm v).1 hv)
    obtain ⟨Tb, Ub, eb, b0, b1⟩ := vfP_of ((wm w).1 hw)
    refine ⟨Ta ++ Tb, Ua ++ Ub, ?_, ?_, ?_⟩
    · rw [ea, eb, List.append_assoc, List.append_assoc]
      refine List.Perm.append_left _ ?_
      rw [← List.append_assoc, ← List.append_assoc]
      exact List.Perm.append_right _ List.perm_append_comm
    · rw [sS_append]
      show geti v 0 + geti w 0 = (geti a 0 + geti b 0) + _
      omega
    · rw [sS_append]
      show geti v 1 + geti w 1 = (geti a 1 + geti b 1) - _
      omega
  · have hql := vfP_row (p := addR a b) rfl q hq
    obtain ⟨A, B, e, q0, q1⟩ := vfP_of hq
    have mk : ∀ (Ta Ua Tb Ub : List (List Int)), Ea = Ta ++ Ua → Eb = Tb ++ Ub → sS E0 A = sS E0 Ta + sS E0 Tb → sS E1 A = sS E1 Ta + sS E1 Tb → q ∈ sumsI V W V.length := by
      intro Ta Ua Tb Ub ea eb s0 s1
      refine sumsI_mem.2 ⟨[geti a 0 + sS E0 Ta, geti a 1 - sS E1 Ta], (vm _).2 ?_, [geti b 0 + sS E0 Tb, geti b 1 - sS E1 Tb], (wm _).2 ?_, row2_ext hql rfl ?_ ?_⟩
      · rw [ea]; exact vfP_mem v0 rfl rfl rfl
      · rw [eb]; exact vfP_mem w0 rfl rfl rfl
      · rw [q0, s0]
        show (geti a 0 + geti b 0) + _ = (geti a 0 + sS E0 Ta) + (geti b 0 + sS E0 Tb)
        omega
      · rw [q1, s1]
        show (geti a 1 + geti b 1) - _ = (geti a 1 - sS E1 Ta) + (geti b 1 - sS E1 Tb)
        omega
    cases B with
    | nil =>
      rw [List.append_nil] at e
      subst e
      refine mk Ea [] Eb [] (List.append_nil _).symm (List.append_nil _).symm ?_ ?_
      · rw [hJ.tot.1, sS_append]
      · rw [hJ.tot.2, sS_append]
    | cons l B =>
      have hl := hJ.pos l (by rw [e]; simp)
      obtain ⟨j0, j1, _, _⟩ := hJ.at_ A l B e
      obtain ⟨Ta, Ua, ea, fa⟩ := stS_cut sV (fun e he => (pV e he).2.2.1) hl.2.2
      obtain ⟨Tb, Ub, eb, fb⟩ := stS_cut sW (fun e he => (pW e he).2.2.1) hl.2.2
      refine mk Ta Ua Tb Ub ea eb ?_ ?_
      · rw [j0, sS_append, fa, fb]
      · rw [j1, sS_append, fa, fb]
end Go.Proofs.Ythlfdhooiekgjaa
/-
  The stable sort of the library: plain laws of its exchanges, turnings and merges. No condition.
-/
namespace Go.Proofs.Ythlfdhooiekgjaa.Stb
open Go.Sort
variable {α : Type}

def swF (a b n : Nat) (f : Nat → α) (k : Nat) : α := if a ≤ k ∧ k < a + n then f (k - a + b) else if b ≤ k ∧ k < b + n then f (k - b + a) else f k
def rtF (a m b : Nat) (f : Nat → α) (k : Nat) : α := if a ≤ k ∧ k < a + (b - m) then f (k + (m - a)) else if a + (b - m) ≤ k ∧ k < b then f (k - (b - m)) else f k
theorem rt_gt {m i j : Nat} (f : Nat → α) (h1 : j < i) (h2 : i ≤ m) : rtF (m - (i - j)) m (m + j) (swF (m - i) m j f) = rtF (m - i) m (m + j) f := by
  funext k
  simp only [rtF, swF]
  (repeat' split) <;> first | (exfalso; omega) | (congr 1; omega) | rfl
theorem rt_lt {m i j : Nat} (f : Nat → α) (h1 : i < j) (h2 : i ≤ m) : rtF (m - i) m (m + (j - i)) (swF (m - i) (m + j - i) i f) = rtF (m - i) m (m + j) f := by
  funext k
  simp only [rtF, swF]
  (repeat' split) <;> first | (exfalso; omega) | (congr 1; omega) | rfl
theorem rt_eq {m i : Nat} (f : Nat → α) (h2 : i ≤ m) : swF (m - i) m i f = rtF (m - i) m (m + i) f := by
  funext k
  simp only [rtF, swF]
  (repeat' split) <;> first | (exfalso; omega) | (congr 1; omega) | rfl
theorem rt_id1 {a b : Nat} (f : Nat → α) : rtF a a b f = f := by
  funext k
  simp only [rtF]
  (repeat' split) <;> first | (exfalso; omega) | (congr 1; omega) | rfl
theorem rt_id2 {a m : Nat} (f : Nat → α) : rtF a m m f = f := by
  funext k
  simp only [rtF]
  (repeat' split) <;> first | (exfalso; omega) | (congr 1; omega) | rfl

theorem sw_zero {a b : Nat} (f : Nat → α) : swF a b 0 f = f := by
  funext k
  simp only [swF]
  (repeat' split) <;> first | (exfalso; omega) | rfl
/-! ### Order -/
variable {lt : α → α → Bool}
def Sd (lt : α → α → Bool) (a b : Nat) (f : Nat → α) : Prop := ∀ i j, a ≤ i → i < j → j < b → lt (f j) (f i) = false
theorem asym (hS : SWO lt) {x y : α} (h : lt x y = true) : lt y x = false := by
  cases e : lt y x with
  | false => rfl
  | true => have := hS.trans _ _ _ h e; rw [hS.irrefl] at this; cases this
theorem sd_le {a b : Nat} {f : Nat → α} (hS : SWO lt) (h : Sd lt a b f) {i j : Nat} (h1 : a ≤ i) (h2 : i ≤ j) (h3 : j < b) : lt (f j) (f i) = false := by
  by_cases e : i = j
  · subst e; exact hS.irrefl _
  · exact h i j h1 (by omega) h3

theorem one_left (hS : SWO lt) {a b i : Nat} {f : Nat → α} (h2 : Sd lt (a + 1) b f) (hi : a + 1 ≤ i ∧ i ≤ b) (p1 : a + 1 < i → lt (f (i - 1)) (f a) = true) (p2 : i < b → lt (f i) (f a) = false) : Sd lt a b (rtF a (a + 1) i f) := by
  intro p q hp hpq hq
  simp only [rtF]
  by_cases q1 : q < i - 1
  · rw [if_pos (by omega), if_pos (by omega)]
    exact h2 _ _ (by omega) (by omega) (by omega)
  · by_cases q2 : q = i - 1
    · rw [if_neg (by omega), if_pos (by omega), if_pos (by omega)]
      have e : q - (i - (a + 1)) = a := by omega
      rw [e]
      refine hS.ntrans _ (f (i - 1)) _ (asym hS (p1 (by omega))) ?_
      exact sd_le hS h2 (by omega) (by omega) (by omega)
    · rw [if_neg (by omega), if_neg (by omega)]
      by_cases c1 : p < i - 1
      · rw [if_pos (by omega)]
        exact h2 _ _ (by omega) (by omega) (by omega)
      · rw [if_neg (by omega)]
        by_cases c2 : p = i - 1
        · rw [if_pos (by omega)]
          have e : p - (i - (a + 1)) = a := by omega
          rw [e]
          exact hS.ntrans _ (f i) _ (sd_le hS h2 (by omega) (by omega) (by omega)) (p2 (by omega))
        · rw [if_neg (by omega)]
          exact h2 _ _ (by omega) (by omega) (by omega)
theorem one_right (hS : SWO lt) {a m i : Nat} {f : Nat → α} (h1 : Sd lt a m f) (hi : a ≤ i ∧ i ≤ m) (p1 : a < i → lt (f m) (f (i - 1)) = false) (p2 : i < m → lt (f m) (f i) = true) : Sd lt a (m + 1) (rtF i m (m + 1) f) := by
  intro p q hp hpq hq
  simp only [rtF]
  by_cases q1 : q < i
  · rw [if_neg (by omega), if_neg (by omega), if_neg (by omega), if_neg (by omega)]
    exact h1 _ _ (by omega) (by omega) (by omega)
  · by_cases q2 : q = i
    · rw [if_pos (by omega), if_neg (by omega), if_neg (by omega)]
      have e : q + (m - i) = m := by omega
      rw [e]
      refine hS.ntrans _ (f (i - 1)) _ (p1 (by omega)) ?_
      exact sd_le hS h1 (by omega) (by omega) (by omega)
    · rw [if_neg (by omega), if_pos (by omega)]
      by_cases c1 : p < i
      · rw [if_neg (by omega), if_neg (by omega)]
        exact h1 _ _ (by omega) (by omega) (by omega)
      · by_cases c2 : p = i
        · rw [if_pos (by omega)]
          have e : p + (m - i) = m := by omega
          rw [e]
          exact hS.ntrans _ (f i) _ (sd_le hS h1 (by omega) (by omega) (by omega)) (asym hS (p2 (by omega)))
        · rw [if_neg (by omega), if_pos (by omega)]
          exact h1 _ _ (by omega) (by omega) (by omega)

/-- The places where both parts are cut. -/
structure Cut (lt : α → α → Bool) (f : Nat → α) (a m b s e : Nat) : Prop where
  am : a < m ∧ m < b
  sa : a ≤ s ∧ s ≤ m
  me : m ≤ e ∧ e ≤ b
  len : s + (e - m) = (a + b) / 2
  p1 : a < s → e < b → lt (f e) (f (s - 1)) = false
  p2 : s < m → m < e → lt (f (e - 1)) (f s) = true
theorem Cut.cross (hS : SWO lt) {f : Nat → α} {a m b s e : Nat} (h : Cut lt f a m b s e) (h1 : Sd lt a m f) (h2 : Sd lt m b f) :
    Sd lt a s (rtF s m e f) ∧ Sd lt s ((a + b) / 2) (rtF s m e f) ∧ Sd lt ((a + b) / 2) e (rtF s m e f) ∧ Sd lt e b (rtF s m e f) ∧ ∀ x y, a ≤ x → x < (a + b) / 2 → (a + b) / 2 ≤ y → y < b → lt (rtF s m e f y) (rtF s m e f x) = false := by
  obtain ⟨⟨am, mb⟩, ⟨as1, sm⟩, ⟨me, eb⟩, len, p1, p2⟩ := h
  refine ⟨?_, ?_, ?_, ?_, ?_⟩
  · intro p q hp hpq hq
    simp only [rtF]
    rw [if_neg (by omega), if_neg (by omega), if_neg (by omega), if_neg (by omega)]
    exact h1 _ _ (by omega) (by omega) (by omega)
  · intro p q hp hpq hq
    simp only [rtF]
    rw [if_pos (by omega), if_pos (by omega)]
    exact h2 _ _ (by omega) (by omega) (by omega)
  · intro p q hp hpq hq
    simp only [rtF]
    rw [if_neg (by omega), if_pos (by omega), if_neg (by omega), if_pos (by omega)]
    exact h1 _ _ (by omega) (by omega) (by omega)
  · intro p q hp hpq hq
    simp only [rtF]
    rw [if_neg (by omega), if_neg (by omega), if_neg (by omega), if_neg (by omega)]
    exact h2 _ _ (by omega) (by omega) (by omega)
  · intro x y hx1 hx2 hy1 hy2
    simp only [rtF]
    by_cases cx : x < s
    · rw [if_neg (show ¬ (s ≤ x ∧ x < s + (e - m)) by omega), if_neg (show ¬ (s + (e - m) ≤ x ∧ x < e) by omega)]
      rw [if_neg (show ¬ (s ≤ y ∧ y < s + (e - m)) by omega)]
      by_cases cy : y < e
      · rw [if_pos (by omega)]
        exact h1 _ _ (by omega) (by omega) (by omega)
      · rw [if_neg (by omega)]
        refine hS.ntrans _ (f (s - 1)) _ (hS.ntrans _ (f e) _ ?_ (p1 (by omega) (by omega))) ?_
        · exact sd_le hS h2 (by omega) (by omega) (by omega)
        · exact sd_le hS h1 (by omega) (by omega) (by omega)
    · rw [if_pos (show s ≤ x ∧ x < s + (e - m) by omega), if_neg (show ¬ (s ≤ y ∧ y < s + (e - m)) by omega)]
      by_cases cy : y < e
      · rw [if_pos (by omega)]
        have hp := asym hS (p2 (by omega) (by omega))
        refine hS.ntrans _ (f (e - 1)) _ (hS.ntrans _ (f s) _ ?_ hp) ?_
        · exact sd_le hS h1 (by omega) (by omega) (by omega)
        · exact sd_le hS h2 (by omega) (by omega) (by omega)
      · rw [if_neg (by omega)]
        exact h2 _ _ (by omega) (by omega) (by omega)
/-! ### Arrays -/
variable [Inhabited α]
theorem swp_at (d : Array α) {i j : Nat} (hi : i < d.size) (hj : j < d.size) (k : Nat) : (swp d i j)[k]! = if k = i then d[j]! else if k = j then d[i]! else d[k]! := by
  by_cases h : k = i
  · subst h
    rw [if_pos rfl]
    by_cases e : k = j
    · subst e; rw [swp_right d k k hi]
    · exact swp_left d k j hi e
  · rw [if_neg h]
    by_cases e : k = j
    · subst e; rw [if_pos rfl, swp_right d i k hj]
    · rw [if_neg e, swp_other d i j k h e]
/-- What an array reads as. -/
def Is (d : Array α) (f : Nat → α) : Prop := ∀ k, d[k]! = f k
theorem sw_step {d : Array α} {f : Nat → α} {a b i n : Nat} (h : Is d (swF a b i f)) (hi : i < n) (hab : a + n ≤ b) (hb : b + n ≤ d.size) : Is (swp d (a + i) (b + i)) (swF a b (i + 1) f) := by
  intro k
  rw [swp_at d (by omega) (by omega), h, h, h]
  simp only [swF]
  (repeat' split) <;> first | (exfalso; omega) | (congr 1; omega) | rfl
theorem rot_up {d : Array α} {f : Nat → α} {a k : Nat} (h : Is d (rtF a (a + 1) (k + 1) f)) (ha : a ≤ k) (hk : k + 1 < d.size) : Is (swp d k (k + 1)) (rtF a (a + 1) (k + 2) f) := by
  intro c
  rw [swp_at d (by omega) (by omega), h, h, h]
  simp only [rtF]
  (repeat' split) <;> first | (exfalso; omega) | (congr 1; omega) | rfl
theorem rot_dn {d : Array α} {f : Nat → α} {m k : Nat} (h : Is d (rtF (k + 1) m (m + 1) f)) (ha : k + 1 ≤ m) (hk : m < d.size) : Is (swp d (k + 1) k) (rtF k m (m + 1) f) := by
  intro c
  rw [swp_at d (by omega) (by omega), h, h, h]
  simp only [rtF]
  (repeat' split) <;> first | (exfalso; omega) | (congr 1; omega) | rfl

theorem sd_of {a b : Nat} {d : Array α} {f : Nat → α} (h : Is d f) : SortedIn lt a b d ↔ Sd lt a b f := by
  unfold SortedIn Sd
  constructor
  · intro hs i j h1 h2 h3; rw [← h, ← h]; exact hs i j h1 h2 h3
  · intro hs i j h1 h2 h3; rw [h, h]; exact hs i j h1 h2 h3
end Go.Proofs.Ythlfdhooiekgjaa.Stb
/-
  The stable sort of the library: exchanges of ranges and turnings, walked. No condition.
-/
set_option linter.unusedSimpArgs false
set_option linter.unusedVariables false
namespace Go.Proofs.Ythlfdhooiekgjaa
open Go Go.RowKit Go.Lib Go.Sort Go.Shelf
variable {α : Type} [Inhabited α]

set_option maxHeartbeats 16000000 in
set_option maxRecDepth 1000000 in
theorem swapRange_s (enc : α → Value) (g : Nat) (cb : Array Value) (blk off cap a b n : Nat) (d0 d : Array α) (w0 w : World) (R : Row1 enc w0 blk off d0) (hs : d0.size = d.size) (S : SW enc w0 blk off d w) (hab : a + n ≤ b) (hb : b + n ≤ d.size) (hsz : d.size < 4611686018427387904) :
    Calls Try.prog 101 #[.slice (some ⟨blk, off, none⟩) d.size cap, .int .i64 a, .int .i64 b, .int .i64 n, .func (.func g) #[] cb] w fun e w' => e = .returned (.tuple #[]) ∧ ∃ d', d'.size = d.size ∧ PermIn a (b + n) d d' ∧ Stb.Is d' (Stb.swF a b n (fun k => d[k]!)) ∧ SW enc w0 blk off d' w' := by
  have hcl0 := R.hO.cells
  simp only [Value.cells] at hcl0
  have hst := R.hO.store Try.prog
  have mixed : Try.prog.follows Departure.mixedOrders = true := by kernel_rfl
  have S0 : Aside (SW enc w0 blk off d w) := S
  clear S
  go_enter Try.func101, Try.ntmps101
  go_wp2
  go_loopg [10] n (fun g1 vi wr => ∃ (i : Nat) (dk : Array α), vi = .int .i64 i ∧ i ≤ n ∧ n - i ≤ g1 ∧ dk.size = d.size ∧ Aside (SW enc w0 blk off dk wr) ∧ Hid (PermIn a (b + n) d dk ∧ Stb.Is dk (Stb.swF a b i (fun k => d[k]!))))
  case atStart => exact ⟨0, d, by go_num, by omega, by omega, rfl, S0, (show Hid _ from ⟨permIn_refl _ _ _, fun k => by rw [Stb.sw_zero]⟩)⟩
  case round =>
    clear S0
    obtain ⟨i, dk, rfl, hi, hg1, hsk, S1, HO⟩ := hrel
    by_cases hlt : i < n
    · have hltz : (i : Int) < (n : Int) := by omega
      go_wp2
      obtain ⟨iN, hiN⟩ : ∃ q, q = a + i := ⟨_, rfl⟩
      obtain ⟨jN, hjN⟩ : ∃ q, q = b + i := ⟨_, rfl⟩
      have ea : ((a : Int) + (i : Int)).toNat = iN := by omega
      have pa : (0 : Int) ≤ (a : Int) + (i : Int) := by omega
      have ba : (a : Int) + (i : Int) < (d.size : Int) := by omega
      have ra : IntKind.i64.wrap ((a : Int) + (i : Int)) = (a : Int) + (i : Int) := by rw [IntKind.wrap_i64]; omega
      have ec : ((b : Int) + (i : Int)).toNat = jN := by omega
      have pc : (0 : Int) ≤ (b : Int) + (i : Int) := by omega
      have bc : (b : Int) + (i : Int) < (d.size : Int) := by omega
      have rc : IntKind.i64.wrap ((b : Int) + (i : Int)) = (b : Int) + (i : Int) := by rw [IntKind.wrap_i64]; omega
      obtain ⟨x, hx⟩ : ∃ x, x = dk[a + i]! := ⟨_, rfl⟩
      obtain ⟨y, hy⟩ : ∃ x, x = dk[b + i]! := ⟨_, rfl⟩
      have S3 : Aside (SW enc w0 blk off (swp dk (a + i) (b + i)) ((wr.setCell ⟨blk, off + iN, none⟩ (enc y)).setCell ⟨blk, off + jN, none⟩ (enc x)).drew) := by rw [hiN, hjN, hx, hy]; exact S1.out.swapped R (a + i) (b + i) (by omega) (by omega)
      have ca := S1.out.c1 R (by omega) (a + i) (by omega)
      have cb' := S1.out.c1 R (by omega) (b + i) (by omega)
      have fa := S1.out.f1 R (by omega) (a + i) (by omega)
      have fb := S1.out.f1 R (by omega) (b + i) (by omega)
      obtain ⟨u, cc⟩ := S1.out.c2 R (by omega) (a + i) (b + i) (by omega) (by omega) (enc y)
      have HO2 : Hid (PermIn a (b + n) d (swp dk (a + i) (b + i)) ∧ Stb.Is (swp dk (a + i) (b + i)) (Stb.swF a b (i + 1) (fun k => d[k]!))) :=
        (show Hid _ from ⟨permIn_trans _ _ _ _ _ HO.out.1 (swp_permIn _ _ _ _ _ (by omega) (by omega) (by omega) (by omega) (by omega)), Stb.sw_step HO.out.2 hlt hab (by omega)⟩)
      rw [← hjN, ← hiN] at cc
      rw [← hx, ← hiN] at ca
      rw [← hy, ← hjN] at cb'
      rw [← hiN] at fa
      rw [← hjN] at fb
      clear S1 HO hx hy hiN hjN
      go_wp2_with fail
      go_big_region_o
      clear ca cb' cc fa fb
      generalize ((wr.setCell ⟨blk, off + iN, none⟩ (enc y)).setCell ⟨blk, off + jN, none⟩ (enc x)).drew = w3 at S3 ⊢
      clear ea ec
      go_wp2
      go_roundg (n - (i + 1))
      case measure => omega
      case rel => exact ⟨i + 1, swp dk (a + i) (b + i), by go_num, by omega, by omega, by rw [size_swp]; exact hsk, S3, HO2⟩
    · have hltz : ¬ (i : Int) < (n : Int) := by omega
      go_wp2
      go_end0
      obtain rfl : i = n := by omega
      exact ⟨rfl, dk, hsk, HO.out.1, HO.out.2, S1.out⟩


set_option maxHeartbeats 16000000 in
set_option maxRecDepth 1000000 in
theorem rotate_s (enc : α → Value) (g : Nat) (cb : Array Value) (blk off cap a m b : Nat) (d0 d : Array α) (w0 w : World) (R : Row1 enc w0 blk off d0) (hs : d0.size = d.size) (S : SW enc w0 blk off d w) (ham : a < m) (hmb : m < b) (hb : b ≤ d.size) (hsz : d.size < 4611686018427387904) :
    Calls Try.prog 99 #[.slice (some ⟨blk, off, none⟩) d.size cap, .int .i64 a, .int .i64 m, .int .i64 b, .func (.func g) #[] cb] w fun e w' => e = .returned (.tuple #[]) ∧ ∃ d', d'.size = d.size ∧ PermIn a b d d' ∧ Stb.Is d' (Stb.rtF a m b (fun k => d[k]!)) ∧ SW enc w0 blk off d' w' := by
  have mixed : Try.prog.follows Departure.mixedOrders = true := by kernel_rfl
  have S0 : Aside (SW enc w0 blk off d w) := S
  clear S
  have rsub : ∀ x y : Nat, y ≤ x → x < 4611686018427387904 → IntKind.i64.wrap ((x : Int) - (y : Int)) = (x : Int) - (y : Int) := fun x y h1 h2 => by rw [IntKind.wrap_i64]; omega
  have e1 : ((m : Int) - (a : Int)) = ((m - a : Nat) : Int) := by omega
  have e2 : ((b : Int) - (m : Int)) = ((b - m : Nat) : Int) := by omega
  go_enter Try.func99, Try.ntmps99
  go_wp2
  go_loopg [10, 11] (b - a) (fun g1 vi vj wr => ∃ (i j : Nat) (dk : Array α), vi = .int .i64 i ∧ vj = .int .i64 j ∧ 1 ≤ i ∧ i ≤ m - a ∧ 1 ≤ j ∧ j ≤ b - m ∧ i + j ≤ g1 ∧ dk.size = d.size ∧ Aside (SW enc w0 blk off dk wr) ∧ Hid (PermIn a b d dk ∧ Stb.rtF (m - i) m (m + j) (fun k => dk[k]!) = Stb.rtF a m b (fun k => d[k]!)))
  case atStart => exact ⟨m - a, b - m, d, by first | exact congrArg _ e1 | go_num, by first | exact congrArg _ e2 | go_num, by omega, by omega, by omega, by omega, by omega, rfl, S0, (show Hid _ from ⟨permIn_refl _ _ _, by rw [show m - (m - a) = a by omega, show m + (b - m) = b by omega]⟩)⟩
  case round =>
    clear S0 e1 e2
    obtain ⟨i, j, dk, rfl, rfl, hi1, hi2, hj1, hj2, hg1, hsk, S1, HO⟩ := hrel
    have fis : ∀ {d' : Array α} {f : Nat → α}, Stb.Is d' f → (fun k => d'[k]!) = f := fun h => funext h
    by_cases hij : i = j
    · subst hij
      have hc := swapRange_s enc g cb blk off cap (m - i) m i d0 dk w0 wr R (by omega) S1.out (by omega) (by omega) (by omega)
      rw [hsk, show ((m - i : Nat) : Int) = (m : Int) - (i : Int) by omega] at hc
      have r1 := rsub m i (by omega) (by omega)
      clear S1
      go_wp2_with (go_at_call 101; refine hc.mono ?_; rintro e w1 ⟨rfl, d', hz, hp, hI, hw1⟩)
      go_end0
      refine ⟨rfl, d', by omega, permIn_trans _ _ _ _ _ HO.out.1 (permIn_mono _ _ _ _ _ _ (by omega) (by omega) (by omega) hp), ?_, hw1⟩
      rw [← HO.out.2]
      intro k
      rw [hI k, Stb.rt_eq _ (by omega)]
    · by_cases hgt : j < i
      · have hijz : ¬ (i : Int) = (j : Int) := by omega
        have hgtz : (j : Int) < (i : Int) := by omega
        have hc := swapRange_s enc g cb blk off cap (m - i) m j d0 dk w0 wr R (by omega) S1.out (by omega) (by omega) (by omega)
        rw [hsk, show ((m - i : Nat) : Int) = (m : Int) - (i : Int) by omega] at hc
        have r1 := rsub m i (by omega) (by omega)
        have r2 := rsub i j (by omega) (by omega)
        clear S1
        go_wp2_with (go_at_call 101; refine hc.mono ?_; rintro e w1 ⟨rfl, d', hz, hp, hI, hw1⟩)
        have S2 : Aside (SW enc w0 blk off d' w1) := hw1
        have HO2 : Hid (PermIn a b d d' ∧ Stb.rtF (m - (i - j)) m (m + j) (fun k => d'[k]!) = Stb.rtF a m b (fun k => d[k]!)) :=
          (show Hid _ from ⟨permIn_trans _ _ _ _ _ HO.out.1 (permIn_mono _ _ _ _ _ _ (by omega) (by omega) (by omega) hp), by rw [fis hI, Stb.rt_gt _ hgt (by omega)]; exact HO.out.2⟩)
        clear hw1 HO hI hp hc
        go_wp2
        go_roundg (i + j - 1)
        case measure => omega
        case rel => exact ⟨i - j, j, d', by first | go_num | (congr 1; omega), rfl, by omega, by omega, by omega, by omega, by omega, by omega, S2, HO2⟩
      · have hijz : ¬ (i : Int) = (j : Int) := by omega
        have hgtz : ¬ (j : Int) < (i : Int) := by omega
        have hc := swapRange_s enc g cb blk off cap (m - i) (m + j - i) i d0 dk w0 wr R (by omega) S1.out (by omega) (by omega) (by omega)
        rw [hsk, show ((m - i : Nat) : Int) = (m : Int) - (i : Int) by omega, show ((m + j - i : Nat) : Int) = (m : Int) + (j : Int) - (i : Int) by omega] at hc
        have r1 := rsub m i (by omega) (by omega)
        have r2 := rsub j i (by omega) (by omega)
        have r3 : IntKind.i64.wrap ((m : Int) + (j : Int)) = (m : Int) + (j : Int) := by rw [IntKind.wrap_i64]; omega
        have r4 : IntKind.i64.wrap ((m : Int) + (j : Int) - (i : Int)) = (m : Int) + (j : Int) - (i : Int) := by rw [IntKind.wrap_i64]; omega
        clear S1
        go_wp2_with (go_at_call 101; refine hc.mono ?_; rintro e w1 ⟨rfl, d', hz, hp, hI, hw1⟩)
        have S2 : Aside (SW enc w0 blk off d' w1) := hw1
        have HO2 : Hid (PermIn a b d d' ∧ Stb.rtF (m - i) m (m + (j - i)) (fun k => d'[k]!) = Stb.rtF a m b (fun k => d[k]!)) :=
          (show Hid _ from ⟨permIn_trans _ _ _ _ _ HO.out.1 (permIn_mono _ _ _ _ _ _ (by omega) (by omega) (by omega) hp), by rw [fis hI, Stb.rt_lt _ (by omega) (by omega)]; exact HO.out.2⟩)
        clear hw1 HO hI hp hc
        go_wp2
        go_roundg (i + j - 1)
        case measure => omega
        case rel => exact ⟨i, j - i, d', rfl, by first | go_num | (congr 1; omega), by omega, by omega, by omega, by omega, by omega, by omega, S2, HO2⟩
end Go.Proofs.Ythlfdhooiekgjaa
