/-
  Parts of the proof, one behind the other: contracts of functions and plain laws. No condition.
-/
import Derived.OrdersHeld
import Derived.Test.YtbalbiliejjnoaaPt3BranchDeterm
/-
  Sorting what is in order already: nothing is written. Condition: few numbers.
-/
namespace Go.Proofs.Ytbalbiliejjnoaa
open Go Go.RowKit
attribute [local irreducible] AWp AOps ResIs Ret1 QOp LOp COp AFnV AFn Imms LeE LeO
set_option maxHeartbeats 1000000
set_option linter.unusedSimpArgs false
set_option linter.unusedVariables false

def Srt (xs : List Int) : Prop := ∀ i j : Nat, i ≤ j → j < xs.length → geti xs (i : Nat) ≤ geti xs (j : Nat)
theorem srt_of {xs : List Int} (h : xs.Pairwise (· < ·)) : Srt xs := by
  intro i j hij hj
  rcases Nat.lt_or_eq_of_le hij with h1 | rfl
  · have := List.pairwise_iff_getElem.1 h i j (by omega) hj h1
    simp only [geti, Int.toNat_natCast, List.getD_eq_getElem?_getD, List.getElem?_eq_getElem hj, List.getElem?_eq_getElem (show i < xs.length by omega), Option.getD_some]
    omega
  · omega
theorem less_c (a b : Int) : AFnV Try.prog 85 [.i a, .i b] (.bool (decide (a < b))) := by
  (refine AFnV.start Try.func85 Try.ntmps85 rfl (by kernel_rfl) fun hk => ?_; simp only [Env.start, enumF, List.length_cons, List.length_nil, Nat.reduceAdd, Nat.reduceSub, List.cons_append, List.nil_append])
  repeat' (first | (apply AOps.nil; try simp only [List.nil_append, List.cons_append, List.set_cons_zero, List.set_cons_succ, List.length_cons, List.length_nil, Nat.reduceAdd, AV.sh, AV.sh1, AV.sh0, AO.sh, List.map_cons, List.map_nil, Nat.zero_add, Nat.add_zero, setAll]) | (apply w_move; exact rfl; exact rfl) | (apply w_assign; exact rfl; exact rfl) | apply AWp.seq | apply AWp.region | apply AWp.ret | (apply w_skip; exact rfl) | (apply w_pickF; exact rfl; exact rfl; exact rfl) | (apply w_call (isNaN_c _); exact rfl; exact rfl; focus ((repeat (first | exact im_nil | refine im_cons rfl (.val _) ?_)); done)) | ((apply w_lss); iterate 3 exact rfl))
  all_goals exact .bool Try.results85 rfl (by simp)
theorem insertionSort_s (xs : List Int) (hs : Srt xs) (hl : xs.length ≤ 12) : AFnU Try.prog 79 [.ints xs, .i 0, .i xs.length] [] (fun v os => v = .tuple #[] ∧ os = []) := by
  (refine AFnUN.start Try.func79 Try.ntmps79 rfl (by kernel_rfl) fun K => ?_; simp only [Env.start, enumF, List.length_cons, List.length_nil, Nat.reduceAdd, Nat.reduceSub, List.cons_append, List.nil_append])
  repeat' (first | (apply AOps.nil; try simp only [List.nil_append, List.cons_append, List.set_cons_zero, List.set_cons_succ, List.length_cons, List.length_nil, Nat.reduceAdd, AV.sh, AV.sh1, AV.sh0, AO.sh, List.map_cons, List.map_nil, Nat.zero_add, Nat.add_zero, setAll]) | (apply w_move; exact rfl; exact rfl) | (apply w_assign; exact rfl; exact rfl) | apply AWp.seq | apply AWp.region | apply AWp.block | ((apply w_add); iterate 3 exact rfl) | (apply inI_of <;> omega))
  refine AWp.loop (ι := Nat) (fun p => ⟨49, [(0, .ints xs), (1, .i 0), (2, .i xs.length), (6, .i (p + 1))]⟩) (fun p => [.keep 1 K]) (fun p => p ≤ xs.length) (fun p => xs.length - p) 0 (by omega) ⟨lee rfl (by (repeat (first | exact le_nil | refine le_eq rfl rfl ?_))), by (repeat (first | exact lo_nil | refine lo_eq rfl ?_)), rfl, rfl⟩ ?_
  rintro p p0
  by_cases hp : p + 1 < xs.length
  · have hle := hs p (p + 1) (by omega) hp
    have e1 : ((p : Int) + 1 - 1) = (p : Nat) := by omega
    have e2 : ((p : Int) + 1) = ((p + 1 : Nat) : Int) := by omega
    rw [← e1, ← e2] at hle
    repeat' (first | (apply AOps.nil; try simp only [List.nil_append, List.cons_append, List.set_cons_zero, List.set_cons_succ, List.length_cons, List.length_nil, Nat.reduceAdd, AV.sh, AV.sh1, AV.sh0, AO.sh, List.map_cons, List.map_nil, Nat.zero_add, Nat.add_zero, setAll]) | (apply w_move; exact rfl; exact rfl) | (apply w_assign; exact rfl; exact rfl) | apply AWp.seq | apply AWp.region | ((apply AWp.condP; exact rfl) <;> intro h) | apply AWp.block | apply AWp.exit | apply AWp.skip | (apply if_pos'; exact rfl) | omega | ((apply w_lss); iterate 3 exact rfl))
    refine AWp.loop (ι := Unit) (fun _ => ⟨49, [(0, .ints xs), (1, .i 0), (2, .i xs.length), (6, .i (p + 1)), (7, .i (p + 1))]⟩) (fun _ => [.keep 1 K]) (fun _ => True) (fun _ => 0) () trivial ⟨lee rfl (by (repeat (first | exact le_nil | refine le_eq rfl rfl ?_))), by (repeat (first | exact lo_nil | refine lo_eq rfl ?_)), rfl, rfl⟩ ?_
    rintro _ _
    have hc := less_c (geti xs ((p : Int) + 1)) (geti xs ((p : Int) + 1 - 1))
    rw [decide_eq_false (by omega)] at hc
    repeat' (first | (apply AOps.nil; try simp only [List.nil_append, List.cons_append, List.set_cons_zero, List.set_cons_succ, List.length_cons, List.length_nil, Nat.reduceAdd, AV.sh, AV.sh1, AV.sh0, AO.sh, List.map_cons, List.map_nil, Nat.zero_add, Nat.add_zero, setAll]) | ((apply AOps.splitP; exact rfl; exact rfl) <;> intro h) | (apply w_move; exact rfl; exact rfl) | (apply w_assign; exact rfl; exact rfl) | apply AWp.seq | apply AWp.region | (apply AWp.condF; exact rfl) | apply AWp.exit | (apply AWp.regionQ; kernel_rfl; kernel_rfl) | (apply w_skip; exact rfl) | (apply w_pickT; exact rfl; exact rfl; exact rfl) | (apply w_pickF; exact rfl; exact rfl; exact rfl) | (apply w_call (hc); exact rfl; exact rfl; focus ((repeat (first | exact im_nil | refine im_cons rfl (.val _) ?_)); done)) | omega | ((first | apply w_gtr | apply w_add | apply w_sub | apply w_idx | apply w_ld); iterate 3 exact rfl) | (apply inI_of <;> omega))
    all_goals exact ⟨p + 1, by omega, by omega, ⟨lee rfl (by (repeat (first | exact le_nil | refine le_eq rfl rfl ?_))), by (repeat (first | exact lo_nil | refine lo_eq rfl ?_)), rfl, rfl⟩⟩
  · repeat' (first | (apply AOps.nil; try simp only [List.nil_append, List.cons_append, List.set_cons_zero, List.set_cons_succ, List.length_cons, List.length_nil, Nat.reduceAdd, AV.sh, AV.sh1, AV.sh0, AO.sh, List.map_cons, List.map_nil, Nat.zero_add, Nat.add_zero, setAll]) | (apply w_move; exact rfl; exact rfl) | (apply w_assign; exact rfl; exact rfl) | apply AWp.seq | apply AWp.region | ((apply AWp.condP; exact rfl) <;> intro h) | apply AWp.block | apply AWp.exit | apply AWp.skip | (apply if_pos'; exact rfl) | omega | ((apply w_lss); iterate 3 exact rfl))
    exact ⟨_, _, .unit Try.results79, ⟨rfl, rfl⟩, rfl, rfl, by simp⟩
theorem order2_s (xs : List Int) (hs : Srt xs) (a b : Nat) (hab : a ≤ b) (hb : b < xs.length) : AFnV Try.prog 95 [.ints xs, .i a, .i b, .any] (.tuple #[.int .i64 a, .int .i64 b]) := by
  have hle := hs a b hab hb
  have hc := less_c (geti xs (b : Nat)) (geti xs (a : Nat))
  rw [decide_eq_false (by omega)] at hc
  (refine AFnV.start Try.func95 Try.ntmps95 rfl (by kernel_rfl) fun hk0 => ?_; simp only [Env.start, enumF, List.length_cons, List.length_nil, Nat.reduceAdd, Nat.reduceSub, List.cons_append, List.nil_append])
  obtain ⟨hk, hl⟩ : ArgOk (.ints xs) := hk0 _ (by simp)
  repeat' (first | (apply AOps.nil; try simp only [List.nil_append, List.cons_append, List.set_cons_zero, List.set_cons_succ, List.length_cons, List.length_nil, Nat.reduceAdd, AV.sh, AV.sh1, AV.sh0, AO.sh, List.map_cons, List.map_nil, Nat.zero_add, Nat.add_zero, setAll]) | (apply w_move; exact rfl; exact rfl) | (apply w_assign; exact rfl; exact rfl) | apply AWp.seq | apply AWp.region | (apply AWp.condF; exact rfl) | apply AWp.ret | apply AWp.skip | (apply AWp.regionQ; kernel_rfl; kernel_rfl) | (apply w_call (hc); exact rfl; exact rfl; focus ((repeat (first | exact im_nil | refine im_cons rfl (.val _) ?_)); done)) | omega | ((first | apply w_idx | apply w_ld); iterate 3 exact rfl))
  all_goals exact .intint Try.results95 rfl rfl rfl rfl
theorem median_s (xs : List Int) (hs : Srt xs) (a b c : Nat) (hab : a ≤ b) (hbc : b ≤ c) (hc : c < xs.length) : AFnV Try.prog 94 [.ints xs, .i a, .i b, .i c, .any] (.int .i64 b) := by
  have h1 := order2_s xs hs a b hab (by omega)
  have h2 := order2_s xs hs b c hbc hc
  (refine AFnV.start Try.func94 Try.ntmps94 rfl (by kernel_rfl) fun hk => ?_; simp only [Env.start, enumF, List.length_cons, List.length_nil, Nat.reduceAdd, Nat.reduceSub, List.cons_append, List.nil_append])
  repeat' (first | (apply AOps.nil; try simp only [List.nil_append, List.cons_append, List.set_cons_zero, List.set_cons_succ, List.length_cons, List.length_nil, Nat.reduceAdd, AV.sh, AV.sh1, AV.sh0, AO.sh, List.map_cons, List.map_nil, Nat.zero_add, Nat.add_zero, setAll]) | (apply w_move; exact rfl; exact rfl) | (apply w_assign; exact rfl; exact rfl) | apply AWp.seq | apply AWp.region | apply AWp.ret | (apply w_call (h1); exact rfl; exact rfl; focus ((repeat (first | exact im_nil | refine im_cons rfl (.any _) ?_ | refine im_cons rfl (.val _) ?_ | refine im_cons rfl (.ints _) ?_)); done)) | (apply w_call (h2); exact rfl; exact rfl; focus ((repeat (first | exact im_nil | refine im_cons rfl (.any _) ?_ | refine im_cons rfl (.val _) ?_ | refine im_cons rfl (.ints _) ?_)); done)) | ((apply w_extv); iterate 3 exact rfl))
  all_goals exact .int Try.results94 rfl rfl
theorem choosePivot_s (xs : List Int) (hs : Srt xs) (h0 : 12 < xs.length) (h1 : xs.length < 50) : AFnV Try.prog 82 [.ints xs, .i 0, .i xs.length] (.tuple #[.int .i64 ((xs.length / 4 * 2 : Nat) : Int), .int .i64 1]) := by
  have hm := median_s xs hs (xs.length / 4) (xs.length / 4 * 2) (xs.length / 4 * 3) (by omega) (by omega) (by omega)
  have e0 : ((xs.length : Int) - 0) = (xs.length : Int) := by omega
  have e1 : (0 : Int) + ((xs.length : Int) - 0) / 4 * 1 = ((xs.length / 4 : Nat) : Int) := by omega
  have e2 : (0 : Int) + ((xs.length : Int) - 0) / 4 * 2 = ((xs.length / 4 * 2 : Nat) : Int) := by omega
  have e3 : (0 : Int) + ((xs.length : Int) - 0) / 4 * 3 = ((xs.length / 4 * 3 : Nat) : Int) := by omega
  rw [← e1, ← e2, ← e3] at hm
  rw [← e2]
  (refine AFnV.start Try.func82 Try.ntmps82 rfl (by kernel_rfl) fun hk => ?_; simp only [Env.start, enumF, List.length_cons, List.length_nil, Nat.reduceAdd, Nat.reduceSub, List.cons_append, List.nil_append])
  repeat' (first | (apply AOps.nil; try simp only [List.nil_append, List.cons_append, List.set_cons_zero, List.set_cons_succ, List.length_cons, List.length_nil, Nat.reduceAdd, AV.sh, AV.sh1, AV.sh0, AO.sh, List.map_cons, List.map_nil, Nat.zero_add, Nat.add_zero, setAll]) | (apply w_move; exact rfl; exact rfl) | (apply w_assign; exact rfl; exact rfl) | apply AWp.seq | apply AWp.region | ((apply AWp.condP; exact rfl) <;> intro h) | apply AWp.block | apply AWp.ret | apply AWp.skip | (apply w_call (hm); exact rfl; exact rfl; focus ((repeat (first | exact im_nil | refine im_cons rfl (.any _) ?_ | refine im_cons rfl (.val _) ?_ | refine im_cons rfl (.ints _) ?_)); done)) | omega | ((first | apply w_geq | apply w_eql | apply w_add | apply w_sub | apply w_mul | apply w_ld); iterate 3 exact rfl) | (apply w_quo; exact rfl; exact rfl; exact rfl; (focus (omega; done)); (focus (omega; done))) | (apply w_ldb; iterate 5 exact rfl) | (apply w_alone; iterate 3 exact rfl) | (apply inI_of <;> omega))
  all_goals first | exact .intint Try.results82 rfl rfl rfl rfl | (exfalso; simp_all; done) | (exfalso; omega)
theorem partial_s (xs : List Int) (hs : Srt xs) (h0 : 12 < xs.length) (h1 : xs.length < 50) : AFnV Try.prog 84 [.ints xs, .i 0, .i xs.length] (.bool true) := by
  (refine AFnV.start Try.func84 Try.ntmps84 rfl (by kernel_rfl) fun hk => ?_; simp only [Env.start, enumF, List.length_cons, List.length_nil, Nat.reduceAdd, Nat.reduceSub, List.cons_append, List.nil_append])
  repeat' (first | (apply AOps.nil; try simp only [List.nil_append, List.cons_append, List.set_cons_zero, List.set_cons_succ, List.length_cons, List.length_nil, Nat.reduceAdd, AV.sh, AV.sh1, AV.sh0, AO.sh, List.map_cons, List.map_nil, Nat.zero_add, Nat.add_zero, setAll]) | (apply w_move; exact rfl; exact rfl) | (apply w_assign; exact rfl; exact rfl) | apply AWp.seq | apply AWp.region | apply AWp.block | ((apply w_add); iterate 3 exact rfl) | (apply inI_of <;> omega))
  refine AWp.loop (ι := Unit) (fun _ => ⟨133, [(0, .ints xs), (1, .i 0), (2, .i xs.length), (7, .i 1), (8, .i 0)]⟩) (fun _ => []) (fun _ => True) (fun _ => 0) () trivial ⟨lee rfl (by (repeat (first | exact le_nil | refine le_eq rfl rfl ?_))), by (repeat (exact lo_nil)), rfl, rfl⟩ ?_
  rintro _ _
  repeat' (first | (apply AOps.nil; try simp only [List.nil_append, List.cons_append, List.set_cons_zero, List.set_cons_succ, List.length_cons, List.length_nil, Nat.reduceAdd, AV.sh, AV.sh1, AV.sh0, AO.sh, List.map_cons, List.map_nil, Nat.zero_add, Nat.add_zero, setAll]) | (apply w_move; exact rfl; exact rfl) | (apply w_assign; exact rfl; exact rfl) | apply AWp.seq | apply AWp.region | ((apply AWp.condP; exact rfl) <;> intro h) | apply AWp.block | apply AWp.ret | apply AWp.exit | apply AWp.skip | omega | ((apply w_lss); iterate 3 exact rfl))
  refine AWp.loop (ι := Nat) (fun p => ⟨133, [(0, .ints xs), (1, .i 0), (2, .i xs.length), (7, .i (p + 1)), (8, .i 0)]⟩) (fun p => []) (fun p => p + 1 ≤ xs.length) (fun p => xs.length - p) 0 (by omega) ⟨lee rfl (by (repeat (first | exact le_nil | refine le_eq rfl rfl ?_))), by (repeat (exact lo_nil)), rfl, rfl⟩ ?_
  rintro p p0
  by_cases hp : p + 1 < xs.length
  · have hle := hs p (p + 1) (by omega) hp
    have e1 : ((p : Int) + 1 - 1) = (p : Nat) := by omega
    have e2 : ((p : Int) + 1) = ((p + 1 : Nat) : Int) := by omega
    rw [← e1, ← e2] at hle
    have hc := less_c (geti xs ((p : Int) + 1)) (geti xs ((p : Int) + 1 - 1))
    rw [decide_eq_false (by omega)] at hc
    repeat' (first | (apply AOps.nil; try simp only [List.nil_append, List.cons_append, List.set_cons_zero, List.set_cons_succ, List.length_cons, List.length_nil, Nat.reduceAdd, AV.sh, AV.sh1, AV.sh0, AO.sh, List.map_cons, List.map_nil, Nat.zero_add, Nat.add_zero, setAll]) | ((apply AOps.splitP; exact rfl; exact rfl) <;> intro h) | (apply w_move; exact rfl; exact rfl) | (apply w_assign; exact rfl; exact rfl) | apply AWp.seq | apply AWp.region | (apply AWp.condT; exact rfl) | (apply AWp.condF; exact rfl) | apply AWp.block | apply AWp.exit | apply AWp.skip | (apply AWp.regionQ; kernel_rfl; kernel_rfl) | (apply w_skip; exact rfl) | (apply w_pickT; exact rfl; exact rfl; exact rfl) | (apply w_pickF; exact rfl; exact rfl; exact rfl) | (apply w_call (hc); exact rfl; exact rfl; focus ((repeat (first | exact im_nil | refine im_cons rfl (.val _) ?_)); done)) | omega | ((first | apply w_lss | apply w_add | apply w_sub | apply w_idx | apply w_ld); iterate 3 exact rfl) | ((apply w_not); iterate 2 exact rfl) | (apply inI_of <;> omega))
    all_goals exact ⟨p + 1, by omega, by omega, ⟨lee rfl (by (repeat (first | exact le_nil | refine le_eq rfl rfl ?_))), by (repeat (exact lo_nil)), rfl, rfl⟩⟩
  · repeat' (first | (apply AOps.nil; try simp only [List.nil_append, List.cons_append, List.set_cons_zero, List.set_cons_succ, List.length_cons, List.length_nil, Nat.reduceAdd, AV.sh, AV.sh1, AV.sh0, AO.sh, List.map_cons, List.map_nil, Nat.zero_add, Nat.add_zero, setAll]) | ((apply AOps.splitP; exact rfl; exact rfl) <;> intro h) | (apply w_move; exact rfl; exact rfl) | (apply w_assign; exact rfl; exact rfl) | apply AWp.seq | apply AWp.region | ((apply AWp.condP; exact rfl) <;> intro h) | (apply AWp.condF; exact rfl) | apply AWp.ret | apply AWp.exit | apply AWp.skip | (apply AWp.regionQ; kernel_rfl; kernel_rfl) | (apply w_skip; exact rfl) | (apply w_pickF; exact rfl; exact rfl; exact rfl) | omega | ((first | apply w_lss | apply w_eql); iterate 3 exact rfl))
    all_goals exact .bool Try.results84 rfl rfl
theorem pdq_s (xs : List Int) (hs : Srt xs) (lim : Int) (hl : 12 < xs.length → 0 < lim) (h1 : xs.length < 50) : AFnU Try.prog 75 [.ints xs, .i 0, .i xs.length, .i lim] [] (fun v os => v = .tuple #[] ∧ os = []) := by
  by_cases h0 : xs.length ≤ 12
  · have hi := insertionSort_s xs hs h0
    (refine AFnUN.start Try.func75 Try.ntmps75 rfl (by kernel_rfl) fun K => ?_; simp only [Env.start, enumF, List.length_cons, List.length_nil, Nat.reduceAdd, Nat.reduceSub, List.cons_append, List.nil_append])
    repeat' (first | (apply AOps.nil; try simp only [List.nil_append, List.cons_append, List.set_cons_zero, List.set_cons_succ, List.length_cons, List.length_nil, Nat.reduceAdd, AV.sh, AV.sh1, AV.sh0, AO.sh, List.map_cons, List.map_nil, Nat.zero_add, Nat.add_zero, setAll]) | (apply w_assign; exact rfl; exact rfl) | apply AWp.seq | apply AWp.region | apply AWp.block)
    refine AWp.loop (ι := Unit) (fun _ => ⟨134, [(0, .ints xs), (1, .i 0), (2, .i xs.length), (3, .i lim), (8, .b true), (9, .b true)]⟩) (fun _ => [.keep 1 K]) (fun _ => True) (fun _ => 0) () trivial ⟨lee rfl (by (repeat (first | exact le_nil | refine le_eq rfl rfl ?_))), by (repeat (first | exact lo_nil | refine lo_eq rfl ?_)), rfl, rfl⟩ ?_
    rintro _ _
    repeat' (first | (apply AOps.nil; try simp only [List.nil_append, List.cons_append, List.set_cons_zero, List.set_cons_succ, List.length_cons, List.length_nil, Nat.reduceAdd, AV.sh, AV.sh1, AV.sh0, AO.sh, List.map_cons, List.map_nil, Nat.zero_add, Nat.add_zero, setAll]) | (apply w_move; exact rfl; exact rfl) | (apply w_assign; exact rfl; exact rfl) | apply AWp.seq | apply AWp.region | ((apply AWp.condP; exact rfl) <;> intro h) | apply AWp.block | apply AWp.ret | apply AWp.skip | (apply w_callu [] (hi); (exact handed0); (focus ((repeat (first | exact imu_nil | refine imu_cons rfl (.val _) ?_ | refine imu_cons rfl (.ints _) ?_)); done)); rintro v os0 ⟨rfl, rfl⟩; try simp only [List.nil_append, List.cons_append, List.set_cons_zero, List.set_cons_succ, List.length_cons, List.length_nil, Nat.reduceAdd, AV.sh, AV.sh1, AV.sh0, AO.sh, List.map_cons, List.map_nil, Nat.zero_add, Nat.add_zero, setAll]) | omega | ((first | apply w_leq | apply w_sub); iterate 3 exact rfl) | (apply inI_of <;> omega))
    all_goals exact ⟨_, _, .unit Try.results75, ⟨rfl, rfl⟩, rfl, rfl, by simp⟩
  · have hc := choosePivot_s xs hs (by omega) h1
    have hp := partial_s xs hs (by omega) h1
    have hl := hl (by omega)
    (refine AFnUN.start Try.func75 Try.ntmps75 rfl (by kernel_rfl) fun K => ?_; simp only [Env.start, enumF, List.length_cons, List.length_nil, Nat.reduceAdd, Nat.reduceSub, List.cons_append, List.nil_append])
    repeat' (first | (apply AOps.nil; try simp only [List.nil_append, List.cons_append, List.set_cons_zero, List.set_cons_succ, List.length_cons, List.length_nil, Nat.reduceAdd, AV.sh, AV.sh1, AV.sh0, AO.sh, List.map_cons, List.map_nil, Nat.zero_add, Nat.add_zero, setAll]) | (apply w_assign; exact rfl; exact rfl) | apply AWp.seq | apply AWp.region | apply AWp.block)
    refine AWp.loop (ι := Unit) (fun _ => ⟨134, [(0, .ints xs), (1, .i 0), (2, .i xs.length), (3, .i lim), (8, .b true), (9, .b true)]⟩) (fun _ => [.keep 1 K]) (fun _ => True) (fun _ => 0) () trivial ⟨lee rfl (by (repeat (first | exact le_nil | refine le_eq rfl rfl ?_))), by (repeat (first | exact lo_nil | refine lo_eq rfl ?_)), rfl, rfl⟩ ?_
    rintro _ _
    repeat' (first | (apply AOps.nil; try simp only [List.nil_append, List.cons_append, List.set_cons_zero, List.set_cons_succ, List.length_cons, List.length_nil, Nat.reduceAdd, AV.sh, AV.sh1, AV.sh0, AO.sh, List.map_cons, List.map_nil, Nat.zero_add, Nat.add_zero, setAll]) | ((apply AOps.splitP; exact rfl; exact rfl) <;> intro h) | (apply w_move; exact rfl; exact rfl) | (apply w_assign; exact rfl; exact rfl) | apply AWp.seq | apply AWp.region | ((apply AWp.condP; exact rfl) <;> intro h) | (apply AWp.condT; exact rfl) | (apply AWp.condF; exact rfl) | apply AWp.block | apply AWp.ret | apply AWp.skip | (apply AWp.regionQ; kernel_rfl; kernel_rfl) | (apply w_skip; exact rfl) | (apply w_pickT; exact rfl; exact rfl; exact rfl) | (apply w_pickF; exact rfl; exact rfl; exact rfl) | (apply w_call (hc); exact rfl; exact rfl; focus ((repeat (first | exact im_nil | refine im_cons rfl (.val _) ?_ | refine im_cons rfl (.ints _) ?_)); done)) | (apply w_call (hp); exact rfl; exact rfl; focus ((repeat (first | exact im_nil | refine im_cons rfl (.val _) ?_ | refine im_cons rfl (.ints _) ?_)); done)) | omega | ((first | apply w_leq | apply w_gtr | apply w_eql | apply w_sub | apply w_extv); iterate 3 exact rfl) | ((apply w_not); iterate 2 exact rfl) | (apply inI_of <;> omega))
    all_goals first | exact ⟨_, _, .unit Try.results75, ⟨rfl, rfl⟩, rfl, rfl, by simp⟩ | (exfalso; simp_all; done)
theorem bitLen_pos {n : Nat} (h : 0 < n) : 0 < Lib.bitLen n := by
  unfold Lib.bitLen
  rw [Lib.bitLenAux]
  split
  · omega
  · omega
theorem sort_s (xs : List Int) (hs : Srt xs) (h1 : xs.length < 50) : AFnU Try.prog 68 [.ints xs] [] (fun v os => v = .tuple #[] ∧ os = []) := by
  have hb := bitsLen_c (xs.length : Int) (by omega) (by omega)
  have hp := pdq_s xs hs (Lib.bitLen (xs.length : Int).toNat) (fun h => by
    have := bitLen_pos (n := (xs.length : Int).toNat) (by omega)
    omega) h1
  (refine AFnUN.start Try.func68 Try.ntmps68 rfl (by kernel_rfl) fun K => ?_; simp only [Env.start, enumF, List.length_cons, List.length_nil, Nat.reduceAdd, Nat.reduceSub, List.cons_append, List.nil_append])
  repeat' (first | (apply AOps.nil; try simp only [List.nil_append, List.cons_append, List.set_cons_zero, List.set_cons_succ, List.length_cons, List.length_nil, Nat.reduceAdd, AV.sh, AV.sh1, AV.sh0, AO.sh, List.map_cons, List.map_nil, Nat.zero_add, Nat.add_zero, setAll]) | (apply w_move; exact rfl; exact rfl) | (apply w_assign; exact rfl; exact rfl) | apply AWp.seq | apply AWp.region | (apply w_len; exact rfl; exact rfl; first | exact .ints _ | exact .intss _ | exact .sli rfl | exact .sls rfl | exact .slr rfl | exact .orow rfl | exact .nil) | ((apply w_convu); iterate 2 exact rfl) | (apply w_call (hb); exact rfl; exact rfl; focus ((repeat (first | exact im_nil | refine im_cons rfl (.val _) ?_)); done)) | (apply w_callu [] (hp); (exact handed0); (focus ((repeat (first | exact imu_nil | refine imu_cons rfl (.val _) ?_ | refine imu_cons rfl (.ints _) ?_)); done)); rintro v os0 ⟨rfl, rfl⟩; try simp only [List.nil_append, List.cons_append, List.set_cons_zero, List.set_cons_succ, List.length_cons, List.length_nil, Nat.reduceAdd, AV.sh, AV.sh1, AV.sh0, AO.sh, List.map_cons, List.map_nil, Nat.zero_add, Nat.add_zero, setAll]) | omega)
  all_goals exact ⟨_, _, .unit Try.results68, ⟨rfl, rfl⟩, rfl, rfl, by simp⟩
end Go.Proofs.Ytbalbiliejjnoaa
/-
  Contracts of the laws' own helpers over lists of lists. No condition but a bound on the sizes.
-/
namespace Go.Proofs.Ytbalbiliejjnoaa
open Go Go.RowKit
attribute [local irreducible] AWp AOps ResIs Ret1 QOp LOp COp AFnV AFn Imms LeE LeO
set_option maxHeartbeats 1000000
set_option linter.unusedSimpArgs false
set_option linter.unusedVariables false

def szR : List (List Int) → Int → Int
  | [], l => l
  | xs :: r, l => if szI xs l < 0 then -1 else szR r (szI xs l)
def szSS (xss : List (List Int)) (left : Int) : Int := if left - xss.length < 0 then -1 else szR xss (left - xss.length)

theorem szR_ok : ∀ (xss : List (List Int)) (l : Int), 0 ≤ szR xss l → 0 ≤ l → szR xss l ≤ l ∧ ∀ xs ∈ xss, (xs.length : Int) ≤ l
  | [], l, _, _ => ⟨Int.le_refl _, by simp⟩
  | xs :: r, l, h, h0 => by
    simp only [szR] at h ⊢
    by_cases e : szI xs l < 0
    · rw [if_pos e] at h; omega
    · rw [if_neg e] at h ⊢
      have ih := szR_ok r (szI xs l) h (by omega)
      have hx : szI xs l = l - xs.length := by unfold szI at e ⊢; split <;> simp_all
      refine ⟨by omega, fun ys hy => ?_⟩
      rcases List.mem_cons.1 hy with rfl | hy
      · omega
      · have := ih.2 ys hy; omega
theorem szSS_ok {xss : List (List Int)} {left : Int} (h : 0 ≤ szSS xss left) (h0 : 0 ≤ left) : (xss.length : Int) ≤ left ∧ ∀ xs ∈ xss, (xs.length : Int) ≤ left := by
  unfold szSS at h
  split at h
  · omega
  · have := szR_ok xss _ h (by omega)
    exact ⟨by omega, fun xs hx => by have := this.2 xs hx; omega⟩

theorem drop_gets {xss : List (List Int)} {i : Nat} (h : i < xss.length) : xss.drop i = gets xss i :: xss.drop (i + 1) := by
  rw [List.drop_eq_getElem_cons h]; simp [gets, h]

theorem szInt64SS_c (xss : List (List Int)) (left : Int) (h0 : -1 ≤ left) (h1 : left ≤ 1048576) : AFnV Try.prog 23 [.intss xss, .i left] (.int .i64 (szSS xss left)) := by
  (refine AFnV.start Try.func23 Try.ntmps23 rfl (by kernel_rfl) fun hk0 => ?_; simp only [Env.start, enumF, List.length_cons, List.length_nil, Nat.reduceAdd, Nat.reduceSub, List.cons_append, List.nil_append])
  obtain ⟨hk, hl⟩ : ArgOk (.intss xss) := hk0 _ (by simp)
  repeat' (first
  | (apply AOps.nil; try simp only [List.nil_append, List.cons_append, List.set_cons_zero, List.set_cons_succ, List.length_cons, List.length_nil, Nat.reduceAdd, AV.sh, AV.sh1, AV.sh0, AO.sh, List.map_cons, List.map_nil, Nat.zero_add, Nat.add_zero, setAll])
  | ((apply AOps.splitP; exact rfl; exact rfl) <;> intro h)
  | ((apply AOps.splitN; exact rfl; exact rfl) <;> intro h)
  | (apply w_move; exact rfl; exact rfl)
  | (apply w_assign; exact rfl; exact rfl)
  | apply AWp.seq
  | apply AWp.region
  | ((apply AWp.condP; exact rfl) <;> intro h)
  | ((apply AWp.condN; exact rfl) <;> intro h)
  | (apply AWp.condT; exact rfl)
  | (apply AWp.condF; exact rfl)
  | ((apply AWp.condB; exact rfl) <;> intro h)
  | apply AWp.block
  | apply AWp.ret
  | apply AWp.exit
  | apply AWp.skip
  | (apply AWp.regionQ; kernel_rfl; kernel_rfl)
  | (apply if_pos'; exact rfl)
  | (apply if_neg'; decide)
  | (apply w_skip; exact rfl)
  | (apply w_pickT; exact rfl; exact rfl; exact rfl)
  | (apply w_pickF; exact rfl; exact rfl; exact rfl)
  | (apply w_len; exact rfl; exact rfl; first | exact .ints _ | exact .intss _ | exact .sli rfl | exact .sls rfl | exact .slr rfl | exact .orow rfl | exact .nil)
  | ((first | apply w_lss | apply w_leq | apply w_gtr | apply w_geq | apply w_eql | apply w_neq | apply w_add | apply w_sub | apply w_mul | apply w_idx | apply w_ld | apply w_fld | apply w_fa | apply w_extv | apply w_min | apply w_max | apply w_slhi | apply w_sllo | apply w_bs2); iterate 3 exact rfl)
  | ((first | apply w_eqlb | apply w_neqb | apply w_idxs | apply w_lds | apply w_ext); iterate 3 exact rfl)
  | (apply w_rem; exact rfl; exact rfl; exact rfl; (focus (omega; done)); (focus (omega; done)))
  | (apply w_quo; exact rfl; exact rfl; exact rfl; (focus (omega; done)); (focus (omega; done)))
  | (apply w_remT; exact rfl; exact rfl; exact rfl)
  | (apply w_quoT; exact rfl; exact rfl; exact rfl)
  | ((first | apply w_not | apply w_neg | apply w_conv | apply w_build0 | apply w_bs1 | apply w_boxa); iterate 2 exact rfl)
  | (apply w_idxo; exact rfl; exact rfl; (first | exact .sli rfl | exact .sls rfl | exact .slr rfl); exact rfl)
  | ((first | apply w_idxr | apply w_ldr); iterate 4 exact rfl)
  | (apply w_ldo; iterate 4 exact rfl)
  | (apply w_ldls; iterate 4 exact rfl)
  | (apply w_ldrp; iterate 4 exact rfl)
  | (apply w_ldb; iterate 5 exact rfl)
  | (apply w_ldst; iterate 5 exact rfl)
  | ((first | apply w_sllh | apply w_stbi); iterate 4 exact rfl)
  | ((first | apply w_oslo | apply w_oshi | apply w_stbii); iterate 4 exact rfl)
  | (apply w_copy; exact rfl; (first | exact .own rfl rfl rfl | exact .osub); exact rfl; rotate_left 1; exact rfl; (first | exact .ints _ | exact .sli rfl | exact .orow rfl | exact .nil | exact .osub rfl (by simp; omega)))
  | (apply w_build1; exact rfl; exact rfl; (first | exact one_val rfl rfl | exact one_ints | exact one_intss | exact one_own rfl True.intro))
  | (apply w_build2; exact rfl; exact rfl; exact rfl; (first | exact one_val rfl rfl | exact one_ints | exact one_intss | exact one_own rfl True.intro); (first | exact one_val rfl rfl | exact one_ints | exact one_intss | exact one_own rfl True.intro))
  | (apply w_bs0; iterate 1 exact rfl)
  | (apply w_appn; exact rfl; exact rfl; (first | exact .ints _ | exact .sli rfl | exact .orow rfl | exact .nil | exact .osub rfl (by simp; omega)); exact rfl)
  | (apply w_app; exact rfl; exact rfl; exact rfl; exact rfl; (first | exact .ints _ | exact .sli rfl | exact .orow rfl | exact .nil | exact .osub rfl (by simp; omega)); rotate_left 1; simp only [Env.mp, List.map_cons, List.map_nil, List.set_cons_zero, List.set_cons_succ, AV.kill, AV.kill1, AO.kill, AV.noRow, AV.noRow1, AO.via, reduceIte, Nat.reduceEqDiff, Nat.reduceLT, Env.up, Nat.zero_ne_one, Nat.one_ne_zero, Nat.reduceAdd, List.cons_append, List.nil_append]; rotate_left 1)
  | (apply w_alst; iterate 2 exact rfl)
  | (apply w_alone; iterate 3 exact rfl)
  | (apply w_mki; exact rfl; exact rfl; rotate_left 3; exact rfl; rotate_left 1)
  | (apply w_mkr; exact rfl; exact rfl; rotate_left 3; exact rfl; rotate_left 1)
  | (apply w_strow; exact rfl; exact rfl; rotate_left 1; exact rfl; exact rfl; exact rfl; exact rfl; simp only [Env.mp, List.map_cons, List.map_nil, List.set_cons_zero, List.set_cons_succ, AV.kill, AV.kill1, AO.kill, AV.noRow, AV.noRow1, AO.via, reduceIte, Nat.reduceEqDiff, Nat.reduceLT, Env.up, Nat.zero_ne_one, Nat.one_ne_zero, Nat.reduceAdd, List.cons_append, List.nil_append]; rotate_left 1)
  | (apply w_sti; exact rfl; exact rfl; rotate_left 1; exact rfl; rotate_left 2)
  | (apply w_stst; iterate 5 exact rfl)
  | (apply w_stbv; iterate 6 exact rfl)
  | (apply w_stbo; exact rfl; exact rfl; exact rfl; exact rfl; exact rfl; exact True.intro)
  | ((apply AOps.splitB; exact rfl; exact rfl) <;> intro h)
  | apply AllOf.nil
  | (apply AllOf.cons; exact rfl)
  | (apply AAny.take; exact rfl; exact rfl; kernel_rfl; kernel_rfl)
  | (apply AAny.all; exact rfl)
  | (apply AAny.done; exact rfl)
  | (apply inI_of <;> omega)
  | omega
  | (simp <;> omega))
  · exact .int Try.results23 rfl (by simp [szSS, h])
  refine AWp.loop (ι := Nat × Int) (fun s => ⟨27, [(0, .intss xss), (1, .i s.2), (5, .i s.1)]⟩) (fun _ => []) (fun s => s.1 ≤ xss.length ∧ 0 ≤ s.2 ∧ s.2 ≤ 1048576 ∧ szR (xss.drop s.1) s.2 = szSS xss left) (fun s => xss.length - s.1) (0, left - xss.length) ⟨by simp, by simp only; omega, by simp only; omega, by simp [szSS, h]⟩ ⟨lee rfl (by (repeat (first | exact le_nil | refine le_eq rfl rfl ?_ | refine le_eq rfl (congrArg AV.i (by omega)) ?_))), by (repeat (first | exact lo_nil | refine lo_dead ?_ | refine lo_eq rfl ?_)), rfl, rfl⟩ ?_
  rintro ⟨i, l⟩ ⟨a0, a1, a2, a3⟩
  simp only at a0 a1 a2 a3
  repeat' (first
  | (apply AOps.nil; try simp only [List.nil_append, List.cons_append, List.set_cons_zero, List.set_cons_succ, List.length_cons, List.length_nil, Nat.reduceAdd, AV.sh, AV.sh1, AV.sh0, AO.sh, List.map_cons, List.map_nil, Nat.zero_add, Nat.add_zero, setAll])
  | ((apply AOps.splitP; exact rfl; exact rfl) <;> intro h)
  | ((apply AOps.splitN; exact rfl; exact rfl) <;> intro h)
  | (apply w_move; exact rfl; exact rfl)
  | (apply w_assign; exact rfl; exact rfl)
  | apply AWp.seq
  | apply AWp.region
  | ((apply AWp.condP; exact rfl) <;> intro h)
  | ((apply AWp.condN; exact rfl) <;> intro h)
  | (apply AWp.condT; exact rfl)
  | (apply AWp.condF; exact rfl)
  | ((apply AWp.condB; exact rfl) <;> intro h)
  | apply AWp.block
  | apply AWp.ret
  | apply AWp.exit
  | apply AWp.skip
  | (apply AWp.regionQ; kernel_rfl; kernel_rfl)
  | (apply if_pos'; exact rfl)
  | (apply if_neg'; decide)
  | (apply w_skip; exact rfl)
  | (apply w_pickT; exact rfl; exact rfl; exact rfl)
  | (apply w_pickF; exact rfl; exact rfl; exact rfl)
  | (apply w_len; exact rfl; exact rfl; first | exact .ints _ | exact .intss _ | exact .sli rfl | exact .sls rfl | exact .slr rfl | exact .orow rfl | exact .nil)
  | (apply w_call (szInt64S_c _ _ (show -1 ≤ l by omega) a2); exact rfl; exact rfl; focus ((repeat (first | exact im_nil | refine im_cons rfl (.val _) ?_ | refine im_cons rfl (.ints _) ?_ | refine im_cons rfl (.intss _) ?_ | refine im_cons rfl (.sli rfl) ?_ | refine im_cons rfl (.sls rfl) ?_ | refine im_cons rfl (.orow rfl) ?_ | refine im_cons rfl (.osub rfl (by simp; omega)) ?_ | refine im_cons rfl (.nil) ?_ | refine im_cons rfl (.nils) ?_ | refine im_cons rfl (im_agg2 (.val _) (.ints _)) ?_ | refine im_cons rfl (im_agg2 (.val _) (.sli rfl)) ?_ | refine im_cons rfl (im_agg2 (.val _) (.nil)) ?_ | refine im_cons rfl (im_agg2 (.ints _) (.intss _)) ?_ | refine im_cons rfl (im_agg2 (.ints _) (.sls rfl)) ?_ | refine im_cons rfl (im_agg2 (.sli rfl) (.intss _)) ?_ | refine im_cons rfl (im_agg2 (.sli rfl) (.sls rfl)) ?_ | refine im_cons rfl (im_agg1 (.ints _)) ?_ | refine im_cons rfl (im_agg1 (.sli rfl)) ?_ | refine im_cons rfl (im_agg1 (.intss _)) ?_ | refine im_cons rfl (im_agg1 (.sls rfl)) ?_ | refine im_cons rfl (im_agg1 (.nil)) ?_ | refine im_cons rfl (im_agg1 (.nils)) ?_)); done))
  | ((first | apply w_lss | apply w_leq | apply w_gtr | apply w_geq | apply w_eql | apply w_neq | apply w_add | apply w_sub | apply w_mul | apply w_idx | apply w_ld | apply w_fld | apply w_fa | apply w_extv | apply w_min | apply w_max | apply w_slhi | apply w_sllo | apply w_bs2); iterate 3 exact rfl)
  | ((first | apply w_eqlb | apply w_neqb | apply w_idxs | apply w_lds | apply w_ext); iterate 3 exact rfl)
  | (apply w_rem; exact rfl; exact rfl; exact rfl; (focus (omega; done)); (focus (omega; done)))
  | (apply w_quo; exact rfl; exact rfl; exact rfl; (focus (omega; done)); (focus (omega; done)))
  | (apply w_remT; exact rfl; exact rfl; exact rfl)
  | (apply w_quoT; exact rfl; exact rfl; exact rfl)
  | ((first | apply w_not | apply w_neg | apply w_conv | apply w_build0 | apply w_bs1 | apply w_boxa); iterate 2 exact rfl)
  | (apply w_idxo; exact rfl; exact rfl; (first | exact .sli rfl | exact .sls rfl | exact .slr rfl); exact rfl)
  | ((first | apply w_idxr | apply w_ldr); iterate 4 exact rfl)
  | (apply w_ldo; iterate 4 exact rfl)
  | (apply w_ldls; iterate 4 exact rfl)
  | (apply w_ldrp; iterate 4 exact rfl)
  | (apply w_ldb; iterate 5 exact rfl)
  | (apply w_ldst; iterate 5 exact rfl)
  | ((first | apply w_sllh | apply w_stbi); iterate 4 exact rfl)
  | ((first | apply w_oslo | apply w_oshi | apply w_stbii); iterate 4 exact rfl)
  | (apply w_copy; exact rfl; (first | exact .own rfl rfl rfl | exact .osub); exact rfl; rotate_left 1; exact rfl; (first | exact .ints _ | exact .sli rfl | exact .orow rfl | exact .nil | exact .osub rfl (by simp; omega)))
  | (apply w_build1; exact rfl; exact rfl; (first | exact one_val rfl rfl | exact one_ints | exact one_intss | exact one_own rfl True.intro))
  | (apply w_build2; exact rfl; exact rfl; exact rfl; (first | exact one_val rfl rfl | exact one_ints | exact one_intss | exact one_own rfl True.intro); (first | exact one_val rfl rfl | exact one_ints | exact one_intss | exact one_own rfl True.intro))
  | (apply w_bs0; iterate 1 exact rfl)
  | (apply w_appn; exact rfl; exact rfl; (first | exact .ints _ | exact .sli rfl | exact .orow rfl | exact .nil | exact .osub rfl (by simp; omega)); exact rfl)
  | (apply w_app; exact rfl; exact rfl; exact rfl; exact rfl; (first | exact .ints _ | exact .sli rfl | exact .orow rfl | exact .nil | exact .osub rfl (by simp; omega)); rotate_left 1; simp only [Env.mp, List.map_cons, List.map_nil, List.set_cons_zero, List.set_cons_succ, AV.kill, AV.kill1, AO.kill, AV.noRow, AV.noRow1, AO.via, reduceIte, Nat.reduceEqDiff, Nat.reduceLT, Env.up, Nat.zero_ne_one, Nat.one_ne_zero, Nat.reduceAdd, List.cons_append, List.nil_append]; rotate_left 1)
  | (apply w_alst; iterate 2 exact rfl)
  | (apply w_alone; iterate 3 exact rfl)
  | (apply w_mki; exact rfl; exact rfl; rotate_left 3; exact rfl; rotate_left 1)
  | (apply w_mkr; exact rfl; exact rfl; rotate_left 3; exact rfl; rotate_left 1)
  | (apply w_strow; exact rfl; exact rfl; rotate_left 1; exact rfl; exact rfl; exact rfl; exact rfl; simp only [Env.mp, List.map_cons, List.map_nil, List.set_cons_zero, List.set_cons_succ, AV.kill, AV.kill1, AO.kill, AV.noRow, AV.noRow1, AO.via, reduceIte, Nat.reduceEqDiff, Nat.reduceLT, Env.up, Nat.zero_ne_one, Nat.one_ne_zero, Nat.reduceAdd, List.cons_append, List.nil_append]; rotate_left 1)
  | (apply w_sti; exact rfl; exact rfl; rotate_left 1; exact rfl; rotate_left 2)
  | (apply w_stst; iterate 5 exact rfl)
  | (apply w_stbv; iterate 6 exact rfl)
  | (apply w_stbo; exact rfl; exact rfl; exact rfl; exact rfl; exact rfl; exact True.intro)
  | ((apply AOps.splitB; exact rfl; exact rfl) <;> intro h)
  | apply AllOf.nil
  | (apply AllOf.cons; exact rfl)
  | (apply AAny.take; exact rfl; exact rfl; kernel_rfl; kernel_rfl)
  | (apply AAny.all; exact rfl)
  | (apply AAny.done; exact rfl)
  | (apply inI_of <;> omega)
  | omega
  | (simp <;> omega))
  · rw [drop_gets (by omega)] at a3
    exact .int Try.results23 rfl (by rw [← a3]; simp [szR, h])
  · rw [drop_gets (by omega)] at a3
    have e1 : szI (gets xss i) l = l - (gets xss i).length := by unfold szI at h ⊢; split <;> simp_all
    exact ⟨(i + 1, szI (gets xss i) l), ⟨by simp only; omega, by simp only; omega, by simp only; omega, by simp only; rw [← a3]; simp [szR, h]⟩, by simp only; omega, ⟨lee rfl (by (repeat (first | exact le_nil | refine le_eq rfl rfl ?_ | refine le_eq rfl (congrArg AV.i (by omega)) ?_))), by (repeat (first | exact lo_nil | refine lo_dead ?_ | refine lo_eq rfl ?_)), rfl, rfl⟩⟩
  · have e : i = xss.length := by omega
    subst e
    exact .int Try.results23 rfl (by rw [← a3]; simp [szR])

theorem take_set_snocs (xs : List (List Int)) (i : Nat) (h : i < xs.length) : (xs.take i ++ List.replicate (xs.length - i) []).set i (gets xs i) = xs.take (i + 1) ++ List.replicate (xs.length - (i + 1)) [] := by
  rw [List.set_append_right _ _ (by simp; omega), List.length_take, Nat.min_eq_left (by omega), Nat.sub_self, show xs.length - i = (xs.length - (i + 1)) + 1 by omega, List.replicate_succ, List.set_cons_zero, List.take_succ_eq_append_getElem h, show gets xs i = xs[i] by simp [gets, h]]
  simp only [List.append_assoc, List.cons_append, List.nil_append]

/-- The new slice of rows that a function hands back alone. -/
def IsIntss (e e2 : TypeId) (xss : List (List Int)) (r : AV) (os : List AO) : Prop := r = .own 0 ∧ os = [.sls e e2 xss]

theorem toInt64SS_c (xss : List (List Int)) (hb : xss.length ≤ 1048576) (hr : ∀ xs ∈ xss, xs.length ≤ 1048576) : AFn Try.prog 29 [.intss xss] (IsIntss 22 2 xss) := by
  (refine AFn.start Try.func29 Try.ntmps29 rfl (by kernel_rfl) fun hk => ?_; simp only [Env.start, enumF, List.length_cons, List.length_nil, Nat.reduceAdd, Nat.reduceSub, List.cons_append, List.nil_append])
  repeat' (first
  | (apply AOps.nil; try simp only [List.nil_append, List.cons_append, List.set_cons_zero, List.set_cons_succ, List.length_cons, List.length_nil, Nat.reduceAdd, AV.sh, AV.sh1, AV.sh0, AO.sh, List.map_cons, List.map_nil, Nat.zero_add, Nat.add_zero, setAll])
  | ((apply AOps.splitP; exact rfl; exact rfl) <;> intro h)
  | ((apply AOps.splitN; exact rfl; exact rfl) <;> intro h)
  | (apply w_move; exact rfl; exact rfl)
  | (apply w_assign; exact rfl; exact rfl)
  | apply AWp.seq
  | apply AWp.region
  | ((apply AWp.condP; exact rfl) <;> intro h)
  | ((apply AWp.condN; exact rfl) <;> intro h)
  | (apply AWp.condT; exact rfl)
  | (apply AWp.condF; exact rfl)
  | ((apply AWp.condB; exact rfl) <;> intro h)
  | apply AWp.block
  | apply AWp.ret
  | apply AWp.exit
  | apply AWp.skip
  | (apply AWp.regionQ; kernel_rfl; kernel_rfl)
  | (apply if_pos'; exact rfl)
  | (apply if_neg'; decide)
  | (apply w_skip; exact rfl)
  | (apply w_pickT; exact rfl; exact rfl; exact rfl)
  | (apply w_pickF; exact rfl; exact rfl; exact rfl)
  | (apply w_len; exact rfl; exact rfl; first | exact .ints _ | exact .intss _ | exact .sli rfl | exact .sls rfl | exact .slr rfl | exact .orow rfl | exact .nil)
  | ((first | apply w_lss | apply w_leq | apply w_gtr | apply w_geq | apply w_eql | apply w_neq | apply w_add | apply w_sub | apply w_mul | apply w_idx | apply w_ld | apply w_fld | apply w_fa | apply w_extv | apply w_min | apply w_max | apply w_slhi | apply w_sllo | apply w_bs2); iterate 3 exact rfl)
  | ((first | apply w_eqlb | apply w_neqb | apply w_idxs | apply w_lds | apply w_ext); iterate 3 exact rfl)
  | (apply w_rem; exact rfl; exact rfl; exact rfl; (focus (omega; done)); (focus (omega; done)))
  | (apply w_quo; exact rfl; exact rfl; exact rfl; (focus (omega; done)); (focus (omega; done)))
  | (apply w_remT; exact rfl; exact rfl; exact rfl)
  | (apply w_quoT; exact rfl; exact rfl; exact rfl)
  | ((first | apply w_not | apply w_neg | apply w_conv | apply w_build0 | apply w_bs1 | apply w_boxa); iterate 2 exact rfl)
  | (apply w_idxo; exact rfl; exact rfl; (first | exact .sli rfl | exact .sls rfl | exact .slr rfl); exact rfl)
  | ((first | apply w_idxr | apply w_ldr); iterate 4 exact rfl)
  | (apply w_ldo; iterate 4 exact rfl)
  | (apply w_ldls; iterate 4 exact rfl)
  | (apply w_ldrp; iterate 4 exact rfl)
  | (apply w_ldb; iterate 5 exact rfl)
  | (apply w_ldst; iterate 5 exact rfl)
  | ((first | apply w_sllh | apply w_stbi); iterate 4 exact rfl)
  | ((first | apply w_oslo | apply w_oshi | apply w_stbii); iterate 4 exact rfl)
  | (apply w_copy; exact rfl; (first | exact .own rfl rfl rfl | exact .osub); exact rfl; rotate_left 1; exact rfl; (first | exact .ints _ | exact .sli rfl | exact .orow rfl | exact .nil | exact .osub rfl (by simp; omega)))
  | (apply w_build1; exact rfl; exact rfl; (first | exact one_val rfl rfl | exact one_ints | exact one_intss | exact one_own rfl True.intro))
  | (apply w_build2; exact rfl; exact rfl; exact rfl; (first | exact one_val rfl rfl | exact one_ints | exact one_intss | exact one_own rfl True.intro); (first | exact one_val rfl rfl | exact one_ints | exact one_intss | exact one_own rfl True.intro))
  | (apply w_bs0; iterate 1 exact rfl)
  | (apply w_appn; exact rfl; exact rfl; (first | exact .ints _ | exact .sli rfl | exact .orow rfl | exact .nil | exact .osub rfl (by simp; omega)); exact rfl)
  | (apply w_app; exact rfl; exact rfl; exact rfl; exact rfl; (first | exact .ints _ | exact .sli rfl | exact .orow rfl | exact .nil | exact .osub rfl (by simp; omega)); rotate_left 1; simp only [Env.mp, List.map_cons, List.map_nil, List.set_cons_zero, List.set_cons_succ, AV.kill, AV.kill1, AO.kill, AV.noRow, AV.noRow1, AO.via, reduceIte, Nat.reduceEqDiff, Nat.reduceLT, Env.up, Nat.zero_ne_one, Nat.one_ne_zero, Nat.reduceAdd, List.cons_append, List.nil_append]; rotate_left 1)
  | (apply w_alst; iterate 2 exact rfl)
  | (apply w_alone; iterate 3 exact rfl)
  | (apply w_mki; exact rfl; exact rfl; rotate_left 3; exact rfl; rotate_left 1)
  | (apply w_mkr; exact rfl; exact rfl; rotate_left 3; exact rfl; rotate_left 1)
  | (apply w_strow; exact rfl; exact rfl; rotate_left 1; exact rfl; exact rfl; exact rfl; exact rfl; simp only [Env.mp, List.map_cons, List.map_nil, List.set_cons_zero, List.set_cons_succ, AV.kill, AV.kill1, AO.kill, AV.noRow, AV.noRow1, AO.via, reduceIte, Nat.reduceEqDiff, Nat.reduceLT, Env.up, Nat.zero_ne_one, Nat.one_ne_zero, Nat.reduceAdd, List.cons_append, List.nil_append]; rotate_left 1)
  | (apply w_sti; exact rfl; exact rfl; rotate_left 1; exact rfl; rotate_left 2)
  | (apply w_stst; iterate 5 exact rfl)
  | (apply w_stbv; iterate 6 exact rfl)
  | (apply w_stbo; exact rfl; exact rfl; exact rfl; exact rfl; exact rfl; exact True.intro)
  | ((apply AOps.splitB; exact rfl; exact rfl) <;> intro h)
  | apply AllOf.nil
  | (apply AllOf.cons; exact rfl)
  | (apply AAny.take; exact rfl; exact rfl; kernel_rfl; kernel_rfl)
  | (apply AAny.all; exact rfl)
  | (apply AAny.done; exact rfl)
  | (apply inI_of <;> omega)
  | omega
  | (simp <;> omega))
  refine AWp.loop (ι := Nat) (fun i => ⟨23, [(0, .intss xss), (3, .own 0), (4, .i i)]⟩) (fun i => [.sls 22 2 (xss.take i ++ List.replicate (xss.length - i) [])]) (fun i => i ≤ xss.length) (fun i => xss.length - i) 0 (by omega) ⟨lee rfl (by (repeat (first | exact le_nil | refine le_eq rfl rfl ?_))), lo_eq (by simp) lo_nil, rfl, rfl⟩ ?_
  rintro i h0
  have e1 : (xss.take i ++ List.replicate (xss.length - i) []).length = xss.length := by simp; omega
  have hb2 : (gets xss i).length ≤ 1048576 := by
    by_cases hi : i < xss.length
    · exact hr _ (gets_mem (by omega) (by omega))
    · simp [gets, List.getElem?_eq_none (show xss.length ≤ i by omega)]
  repeat' (first
  | (apply AOps.nil; try simp only [List.nil_append, List.cons_append, List.set_cons_zero, List.set_cons_succ, List.length_cons, List.length_nil, Nat.reduceAdd, AV.sh, AV.sh1, AV.sh0, AO.sh, List.map_cons, List.map_nil, Nat.zero_add, Nat.add_zero, setAll])
  | ((apply AOps.splitP; exact rfl; exact rfl) <;> intro h)
  | ((apply AOps.splitN; exact rfl; exact rfl) <;> intro h)
  | (apply w_move; exact rfl; exact rfl)
  | (apply w_assign; exact rfl; exact rfl)
  | apply AWp.seq
  | apply AWp.region
  | ((apply AWp.condP; exact rfl) <;> intro h)
  | ((apply AWp.condN; exact rfl) <;> intro h)
  | (apply AWp.condT; exact rfl)
  | (apply AWp.condF; exact rfl)
  | ((apply AWp.condB; exact rfl) <;> intro h)
  | apply AWp.block
  | apply AWp.ret
  | apply AWp.exit
  | apply AWp.skip
  | (apply AWp.regionQ; kernel_rfl; kernel_rfl)
  | (apply if_pos'; exact rfl)
  | (apply if_neg'; decide)
  | (apply w_skip; exact rfl)
  | (apply w_pickT; exact rfl; exact rfl; exact rfl)
  | (apply w_pickF; exact rfl; exact rfl; exact rfl)
  | (apply w_len; exact rfl; exact rfl; first | exact .ints _ | exact .intss _ | exact .sli rfl | exact .sls rfl | exact .slr rfl | exact .orow rfl | exact .nil)
  | (apply w_callm (toInt64S_c _ hb2); (focus ((repeat (first | exact im_nil | refine im_cons rfl (.val _) ?_ | refine im_cons rfl (.ints _) ?_ | refine im_cons rfl (.intss _) ?_ | refine im_cons rfl (.sli rfl) ?_ | refine im_cons rfl (.sls rfl) ?_ | refine im_cons rfl (.orow rfl) ?_ | refine im_cons rfl (.osub rfl (by simp; omega)) ?_ | refine im_cons rfl (.nil) ?_ | refine im_cons rfl (.nils) ?_ | refine im_cons rfl (im_agg2 (.val _) (.ints _)) ?_ | refine im_cons rfl (im_agg2 (.val _) (.sli rfl)) ?_ | refine im_cons rfl (im_agg2 (.val _) (.nil)) ?_ | refine im_cons rfl (im_agg2 (.ints _) (.intss _)) ?_ | refine im_cons rfl (im_agg2 (.ints _) (.sls rfl)) ?_ | refine im_cons rfl (im_agg2 (.sli rfl) (.intss _)) ?_ | refine im_cons rfl (im_agg2 (.sli rfl) (.sls rfl)) ?_ | refine im_cons rfl (im_agg1 (.ints _)) ?_ | refine im_cons rfl (im_agg1 (.sli rfl)) ?_ | refine im_cons rfl (im_agg1 (.intss _)) ?_ | refine im_cons rfl (im_agg1 (.sls rfl)) ?_ | refine im_cons rfl (im_agg1 (.nil)) ?_ | refine im_cons rfl (im_agg1 (.nils)) ?_)); done)); rintro r os0 ⟨rfl, rfl⟩; try simp only [List.nil_append, List.cons_append, List.set_cons_zero, List.set_cons_succ, List.length_cons, List.length_nil, Nat.reduceAdd, AV.sh, AV.sh1, AV.sh0, AO.sh, List.map_cons, List.map_nil, Nat.zero_add, Nat.add_zero, setAll])
  | ((first | apply w_lss | apply w_leq | apply w_gtr | apply w_geq | apply w_eql | apply w_neq | apply w_add | apply w_sub | apply w_mul | apply w_idx | apply w_ld | apply w_fld | apply w_fa | apply w_extv | apply w_min | apply w_max | apply w_slhi | apply w_sllo | apply w_bs2); iterate 3 exact rfl)
  | ((first | apply w_eqlb | apply w_neqb | apply w_idxs | apply w_lds | apply w_ext); iterate 3 exact rfl)
  | (apply w_rem; exact rfl; exact rfl; exact rfl; (focus (omega; done)); (focus (omega; done)))
  | (apply w_quo; exact rfl; exact rfl; exact rfl; (focus (omega; done)); (focus (omega; done)))
  | (apply w_remT; exact rfl; exact rfl; exact rfl)
  | (apply w_quoT; exact rfl; exact rfl; exact rfl)
  | ((first | apply w_not | apply w_neg | apply w_conv | apply w_build0 | apply w_bs1 | apply w_boxa); iterate 2 exact rfl)
  | (apply w_idxo; exact rfl; exact rfl; (first | exact .sli rfl | exact .sls rfl | exact .slr rfl); exact rfl)
  | ((first | apply w_idxr | apply w_ldr); iterate 4 exact rfl)
  | (apply w_ldo; iterate 4 exact rfl)
  | (apply w_ldls; iterate 4 exact rfl)
  | (apply w_ldrp; iterate 4 exact rfl)
  | (apply w_ldb; iterate 5 exact rfl)
  | (apply w_ldst; iterate 5 exact rfl)
  | ((first | apply w_sllh | apply w_stbi); iterate 4 exact rfl)
  | ((first | apply w_oslo | apply w_oshi | apply w_stbii); iterate 4 exact rfl)
  | (apply w_copy; exact rfl; (first | exact .own rfl rfl rfl | exact .osub); exact rfl; rotate_left 1; exact rfl; (first | exact .ints _ | exact .sli rfl | exact .orow rfl | exact .nil | exact .osub rfl (by simp; omega)))
  | (apply w_build1; exact rfl; exact rfl; (first | exact one_val rfl rfl | exact one_ints | exact one_intss | exact one_own rfl True.intro))
  | (apply w_build2; exact rfl; exact rfl; exact rfl; (first | exact one_val rfl rfl | exact one_ints | exact one_intss | exact one_own rfl True.intro); (first | exact one_val rfl rfl | exact one_ints | exact one_intss | exact one_own rfl True.intro))
  | (apply w_bs0; iterate 1 exact rfl)
  | (apply w_appn; exact rfl; exact rfl; (first | exact .ints _ | exact .sli rfl | exact .orow rfl | exact .nil | exact .osub rfl (by simp; omega)); exact rfl)
  | (apply w_app; exact rfl; exact rfl; exact rfl; exact rfl; (first | exact .ints _ | exact .sli rfl | exact .orow rfl | exact .nil | exact .osub rfl (by simp; omega)); rotate_left 1; simp only [Env.mp, List.map_cons, List.map_nil, List.set_cons_zero, List.set_cons_succ, AV.kill, AV.kill1, AO.kill, AV.noRow, AV.noRow1, AO.via, reduceIte, Nat.reduceEqDiff, Nat.reduceLT, Env.up, Nat.zero_ne_one, Nat.one_ne_zero, Nat.reduceAdd, List.cons_append, List.nil_append]; rotate_left 1)
  | (apply w_alst; iterate 2 exact rfl)
  | (apply w_alone; iterate 3 exact rfl)
  | (apply w_mki; exact rfl; exact rfl; rotate_left 3; exact rfl; rotate_left 1)
  | (apply w_mkr; exact rfl; exact rfl; rotate_left 3; exact rfl; rotate_left 1)
  | (apply w_strow; exact rfl; exact rfl; rotate_left 1; exact rfl; exact rfl; exact rfl; exact rfl; simp only [Env.mp, List.map_cons, List.map_nil, List.set_cons_zero, List.set_cons_succ, AV.kill, AV.kill1, AO.kill, AV.noRow, AV.noRow1, AO.via, reduceIte, Nat.reduceEqDiff, Nat.reduceLT, Env.up, Nat.zero_ne_one, Nat.one_ne_zero, Nat.reduceAdd, List.cons_append, List.nil_append]; rotate_left 1)
  | (apply w_sti; exact rfl; exact rfl; rotate_left 1; exact rfl; rotate_left 2)
  | (apply w_stst; iterate 5 exact rfl)
  | (apply w_stbv; iterate 6 exact rfl)
  | (apply w_stbo; exact rfl; exact rfl; exact rfl; exact rfl; exact rfl; exact True.intro)
  | ((apply AOps.splitB; exact rfl; exact rfl) <;> intro h)
  | apply AllOf.nil
  | (apply AllOf.cons; exact rfl)
  | (apply AAny.take; exact rfl; exact rfl; kernel_rfl; kernel_rfl)
  | (apply AAny.all; exact rfl)
  | (apply AAny.done; exact rfl)
  | (apply inI_of <;> omega)
  | omega
  | (simp <;> omega))
  · have e2 := take_set_snocs xss i (by omega)
    have e3 : (xss.take i ++ List.replicate (xss.length - i) []).set ((i : Int)).toNat (gets xss i) = xss.take (i + 1) ++ List.replicate (xss.length - (i + 1)) [] := e2
    exact ⟨i + 1, by omega, by omega, ⟨lee rfl (by (repeat (first | exact le_nil | refine le_eq rfl rfl ?_ | refine le_eq rfl (congrArg AV.i (by omega)) ?_ | refine le_eq rfl (congrArg AV.i (e3)) ?_))), by (repeat (first | exact lo_nil | refine lo_dead ?_ | refine lo_eq rfl ?_ | refine lo_eq (congrArg (AO.sli _) (e3)) ?_ | refine lo_eq (congrArg (AO.sls _ _) (e3)) ?_)), rfl, rfl⟩⟩
  · have e : i = xss.length := by omega
    subst e
    exact ⟨_, _, _, .v1 Try.results29 rfl, .sls rfl, rfl, by simp⟩

theorem eqInt64SS_c (xss yss : List (List Int)) : AFnV Try.prog 34 [.intss xss, .intss yss] (.bool (decide (xss = yss))) := by
  (refine AFnV.start Try.func34 Try.ntmps34 rfl (by kernel_rfl) fun hk0 => ?_; simp only [Env.start, enumF, List.length_cons, List.length_nil, Nat.reduceAdd, Nat.reduceSub, List.cons_append, List.nil_append])
  obtain ⟨hk, hl⟩ : ArgOk (.intss xss) := hk0 _ (by simp)
  repeat' (first
  | (apply AOps.nil; try simp only [List.nil_append, List.cons_append, List.set_cons_zero, List.set_cons_succ, List.length_cons, List.length_nil, Nat.reduceAdd, AV.sh, AV.sh1, AV.sh0, AO.sh, List.map_cons, List.map_nil, Nat.zero_add, Nat.add_zero, setAll])
  | ((apply AOps.splitP; exact rfl; exact rfl) <;> intro h)
  | ((apply AOps.splitN; exact rfl; exact rfl) <;> intro h)
  | (apply w_move; exact rfl; exact rfl)
  | (apply w_assign; exact rfl; exact rfl)
  | apply AWp.seq
  | apply AWp.region
  | ((apply AWp.condP; exact rfl) <;> intro h)
  | ((apply AWp.condN; exact rfl) <;> intro h)
  | (apply AWp.condT; exact rfl)
  | (apply AWp.condF; exact rfl)
  | ((apply AWp.condB; exact rfl) <;> intro h)
  | apply AWp.block
  | apply AWp.ret
  | apply AWp.exit
  | apply AWp.skip
  | (apply AWp.regionQ; kernel_rfl; kernel_rfl)
  | (apply if_pos'; exact rfl)
  | (apply if_neg'; decide)
  | (apply w_skip; exact rfl)
  | (apply w_pickT; exact rfl; exact rfl; exact rfl)
  | (apply w_pickF; exact rfl; exact rfl; exact rfl)
  | (apply w_len; exact rfl; exact rfl; first | exact .ints _ | exact .intss _ | exact .sli rfl | exact .sls rfl | exact .slr rfl | exact .orow rfl | exact .nil)
  | ((first | apply w_lss | apply w_leq | apply w_gtr | apply w_geq | apply w_eql | apply w_neq | apply w_add | apply w_sub | apply w_mul | apply w_idx | apply w_ld | apply w_fld | apply w_fa | apply w_extv | apply w_min | apply w_max | apply w_slhi | apply w_sllo | apply w_bs2); iterate 3 exact rfl)
  | ((first | apply w_eqlb | apply w_neqb | apply w_idxs | apply w_lds | apply w_ext); iterate 3 exact rfl)
  | (apply w_rem; exact rfl; exact rfl; exact rfl; (focus (omega; done)); (focus (omega; done)))
  | (apply w_quo; exact rfl; exact rfl; exact rfl; (focus (omega; done)); (focus (omega; done)))
  | (apply w_remT; exact rfl; exact rfl; exact rfl)
  | (apply w_quoT; exact rfl; exact rfl; exact rfl)
  | ((first | apply w_not | apply w_neg | apply w_conv | apply w_build0 | apply w_bs1 | apply w_boxa); iterate 2 exact rfl)
  | (apply w_idxo; exact rfl; exact rfl; (first | exact .sli rfl | exact .sls rfl | exact .slr rfl); exact rfl)
  | ((first | apply w_idxr | apply w_ldr); iterate 4 exact rfl)
  | (apply w_ldo; iterate 4 exact rfl)
  | (apply w_ldls; iterate 4 exact rfl)
  | (apply w_ldrp; iterate 4 exact rfl)
  | (apply w_ldb; iterate 5 exact rfl)
  | (apply w_ldst; iterate 5 exact rfl)
  | ((first | apply w_sllh | apply w_stbi); iterate 4 exact rfl)
  | ((first | apply w_oslo | apply w_oshi | apply w_stbii); iterate 4 exact rfl)
  | (apply w_copy; exact rfl; (first | exact .own rfl rfl rfl | exact .osub); exact rfl; rotate_left 1; exact rfl; (first | exact .ints _ | exact .sli rfl | exact .orow rfl | exact .nil | exact .osub rfl (by simp; omega)))
  | (apply w_build1; exact rfl; exact rfl; (first | exact one_val rfl rfl | exact one_ints | exact one_intss | exact one_own rfl True.intro))
  | (apply w_build2; exact rfl; exact rfl; exact rfl; (first | exact one_val rfl rfl | exact one_ints | exact one_intss | exact one_own rfl True.intro); (first | exact one_val rfl rfl | exact one_ints | exact one_intss | exact one_own rfl True.intro))
  | (apply w_bs0; iterate 1 exact rfl)
  | (apply w_appn; exact rfl; exact rfl; (first | exact .ints _ | exact .sli rfl | exact .orow rfl | exact .nil | exact .osub rfl (by simp; omega)); exact rfl)
  | (apply w_app; exact rfl; exact rfl; exact rfl; exact rfl; (first | exact .ints _ | exact .sli rfl | exact .orow rfl | exact .nil | exact .osub rfl (by simp; omega)); rotate_left 1; simp only [Env.mp, List.map_cons, List.map_nil, List.set_cons_zero, List.set_cons_succ, AV.kill, AV.kill1, AO.kill, AV.noRow, AV.noRow1, AO.via, reduceIte, Nat.reduceEqDiff, Nat.reduceLT, Env.up, Nat.zero_ne_one, Nat.one_ne_zero, Nat.reduceAdd, List.cons_append, List.nil_append]; rotate_left 1)
  | (apply w_alst; iterate 2 exact rfl)
  | (apply w_alone; iterate 3 exact rfl)
  | (apply w_mki; exact rfl; exact rfl; rotate_left 3; exact rfl; rotate_left 1)
  | (apply w_mkr; exact rfl; exact rfl; rotate_left 3; exact rfl; rotate_left 1)
  | (apply w_strow; exact rfl; exact rfl; rotate_left 1; exact rfl; exact rfl; exact rfl; exact rfl; simp only [Env.mp, List.map_cons, List.map_nil, List.set_cons_zero, List.set_cons_succ, AV.kill, AV.kill1, AO.kill, AV.noRow, AV.noRow1, AO.via, reduceIte, Nat.reduceEqDiff, Nat.reduceLT, Env.up, Nat.zero_ne_one, Nat.one_ne_zero, Nat.reduceAdd, List.cons_append, List.nil_append]; rotate_left 1)
  | (apply w_sti; exact rfl; exact rfl; rotate_left 1; exact rfl; rotate_left 2)
  | (apply w_stst; iterate 5 exact rfl)
  | (apply w_stbv; iterate 6 exact rfl)
  | (apply w_stbo; exact rfl; exact rfl; exact rfl; exact rfl; exact rfl; exact True.intro)
  | ((apply AOps.splitB; exact rfl; exact rfl) <;> intro h)
  | apply AllOf.nil
  | (apply AllOf.cons; exact rfl)
  | (apply AAny.take; exact rfl; exact rfl; kernel_rfl; kernel_rfl)
  | (apply AAny.all; exact rfl)
  | (apply AAny.done; exact rfl)
  | (apply inI_of <;> omega)
  | omega
  | (simp <;> omega))
  · exact .bool Try.results34 rfl (by simp; intro e; subst e; simp at h)
  refine AWp.loop (ι := Nat) (fun i => ⟨27, [(0, .intss xss), (1, .intss yss), (5, .i i)]⟩) (fun _ => []) (fun i => i ≤ xss.length ∧ xss.take i = yss.take i) (fun i => xss.length - i) 0 ⟨by omega, by simp⟩ ⟨lee rfl (by (repeat (first | exact le_nil | refine le_eq rfl rfl ?_ | refine le_eq rfl (congrArg AV.i (by omega)) ?_))), by (repeat (first | exact lo_nil | refine lo_dead ?_ | refine lo_eq rfl ?_)), rfl, rfl⟩ ?_
  rintro i ⟨h0, h1⟩
  have hlen : xss.length = yss.length := by omega
  repeat' (first
  | (apply AOps.nil; try simp only [List.nil_append, List.cons_append, List.set_cons_zero, List.set_cons_succ, List.length_cons, List.length_nil, Nat.reduceAdd, AV.sh, AV.sh1, AV.sh0, AO.sh, List.map_cons, List.map_nil, Nat.zero_add, Nat.add_zero, setAll])
  | ((apply AOps.splitP; exact rfl; exact rfl) <;> intro h)
  | ((apply AOps.splitN; exact rfl; exact rfl) <;> intro h)
  | (apply w_move; exact rfl; exact rfl)
  | (apply w_assign; exact rfl; exact rfl)
  | apply AWp.seq
  | apply AWp.region
  | ((apply AWp.condP; exact rfl) <;> intro h)
  | ((apply AWp.condN; exact rfl) <;> intro h)
  | (apply AWp.condT; exact rfl)
  | (apply AWp.condF; exact rfl)
  | ((apply AWp.condB; exact rfl) <;> intro h)
  | apply AWp.block
  | apply AWp.ret
  | apply AWp.exit
  | apply AWp.skip
  | (apply AWp.regionQ; kernel_rfl; kernel_rfl)
  | (apply if_pos'; exact rfl)
  | (apply if_neg'; decide)
  | (apply w_skip; exact rfl)
  | (apply w_pickT; exact rfl; exact rfl; exact rfl)
  | (apply w_pickF; exact rfl; exact rfl; exact rfl)
  | (apply w_len; exact rfl; exact rfl; first | exact .ints _ | exact .intss _ | exact .sli rfl | exact .sls rfl | exact .slr rfl | exact .orow rfl | exact .nil)
  | (apply w_call (eqInt64S_c _ _); exact rfl; exact rfl; focus ((repeat (first | exact im_nil | refine im_cons rfl (.val _) ?_ | refine im_cons rfl (.ints _) ?_ | refine im_cons rfl (.intss _) ?_ | refine im_cons rfl (.sli rfl) ?_ | refine im_cons rfl (.sls rfl) ?_ | refine im_cons rfl (.orow rfl) ?_ | refine im_cons rfl (.osub rfl (by simp; omega)) ?_ | refine im_cons rfl (.nil) ?_ | refine im_cons rfl (.nils) ?_ | refine im_cons rfl (im_agg2 (.val _) (.ints _)) ?_ | refine im_cons rfl (im_agg2 (.val _) (.sli rfl)) ?_ | refine im_cons rfl (im_agg2 (.val _) (.nil)) ?_ | refine im_cons rfl (im_agg2 (.ints _) (.intss _)) ?_ | refine im_cons rfl (im_agg2 (.ints _) (.sls rfl)) ?_ | refine im_cons rfl (im_agg2 (.sli rfl) (.intss _)) ?_ | refine im_cons rfl (im_agg2 (.sli rfl) (.sls rfl)) ?_ | refine im_cons rfl (im_agg1 (.ints _)) ?_ | refine im_cons rfl (im_agg1 (.sli rfl)) ?_ | refine im_cons rfl (im_agg1 (.intss _)) ?_ | refine im_cons rfl (im_agg1 (.sls rfl)) ?_ | refine im_cons rfl (im_agg1 (.nil)) ?_ | refine im_cons rfl (im_agg1 (.nils)) ?_)); done))
  | ((first | apply w_lss | apply w_leq | apply w_gtr | apply w_geq | apply w_eql | apply w_neq | apply w_add | apply w_sub | apply w_mul | apply w_idx | apply w_ld | apply w_fld | apply w_fa | apply w_extv | apply w_min | apply w_max | apply w_slhi | apply w_sllo | apply w_bs2); iterate 3 exact rfl)
  | ((first | apply w_eqlb | apply w_neqb | apply w_idxs | apply w_lds | apply w_ext); iterate 3 exact rfl)
  | (apply w_rem; exact rfl; exact rfl; exact rfl; (focus (omega; done)); (focus (omega; done)))
  | (apply w_quo; exact rfl; exact rfl; exact rfl; (focus (omega; done)); (focus (omega; done)))
  | (apply w_remT; exact rfl; exact rfl; exact rfl)
  | (apply w_quoT; exact rfl; exact rfl; exact rfl)
  | ((first | apply w_not | apply w_neg | apply w_conv | apply w_build0 | apply w_bs1 | apply w_boxa); iterate 2 exact rfl)
  | (apply w_idxo; exact rfl; exact rfl; (first | exact .sli rfl | exact .sls rfl | exact .slr rfl); exact rfl)
  | ((first | apply w_idxr | apply w_ldr); iterate 4 exact rfl)
  | (apply w_ldo; iterate 4 exact rfl)
  | (apply w_ldls; iterate 4 exact rfl)
  | (apply w_ldrp; iterate 4 exact rfl)
  | (apply w_ldb; iterate 5 exact rfl)
  | (apply w_ldst; iterate 5 exact rfl)
  | ((first | apply w_sllh | apply w_stbi); iterate 4 exact rfl)
  | ((first | apply w_oslo | apply w_oshi | apply w_stbii); iterate 4 exact rfl)
  | (apply w_copy; exact rfl; (first | exact .own rfl rfl rfl | exact .osub); exact rfl; rotate_left 1; exact rfl; (first | exact .ints _ | exact .sli rfl | exact .orow rfl | exact .nil | exact .osub rfl (by simp; omega)))
  | (apply w_build1; exact rfl; exact rfl; (first | exact one_val rfl rfl | exact one_ints | exact one_intss | exact one_own rfl True.intro))
  | (apply w_build2; exact rfl; exact rfl; exact rfl; (first | exact one_val rfl rfl | exact one_ints | exact one_intss | exact one_own rfl True.intro); (first | exact one_val rfl rfl | exact one_ints | exact one_intss | exact one_own rfl True.intro))
  | (apply w_bs0; iterate 1 exact rfl)
  | (apply w_appn; exact rfl; exact rfl; (first | exact .ints _ | exact .sli rfl | exact .orow rfl | exact .nil | exact .osub rfl (by simp; omega)); exact rfl)
  | (apply w_app; exact rfl; exact rfl; exact rfl; exact rfl; (first | exact .ints _ | exact .sli rfl | exact .orow rfl | exact .nil | exact .osub rfl (by simp; omega)); rotate_left 1; simp only [Env.mp, List.map_cons, List.map_nil, List.set_cons_zero, List.set_cons_succ, AV.kill, AV.kill1, AO.kill, AV.noRow, AV.noRow1, AO.via, reduceIte, Nat.reduceEqDiff, Nat.reduceLT, Env.up, Nat.zero_ne_one, Nat.one_ne_zero, Nat.reduceAdd, List.cons_append, List.nil_append]; rotate_left 1)
  | (apply w_alst; iterate 2 exact rfl)
  | (apply w_alone; iterate 3 exact rfl)
  | (apply w_mki; exact rfl; exact rfl; rotate_left 3; exact rfl; rotate_left 1)
  | (apply w_mkr; exact rfl; exact rfl; rotate_left 3; exact rfl; rotate_left 1)
  | (apply w_strow; exact rfl; exact rfl; rotate_left 1; exact rfl; exact rfl; exact rfl; exact rfl; simp only [Env.mp, List.map_cons, List.map_nil, List.set_cons_zero, List.set_cons_succ, AV.kill, AV.kill1, AO.kill, AV.noRow, AV.noRow1, AO.via, reduceIte, Nat.reduceEqDiff, Nat.reduceLT, Env.up, Nat.zero_ne_one, Nat.one_ne_zero, Nat.reduceAdd, List.cons_append, List.nil_append]; rotate_left 1)
  | (apply w_sti; exact rfl; exact rfl; rotate_left 1; exact rfl; rotate_left 2)
  | (apply w_stst; iterate 5 exact rfl)
  | (apply w_stbv; iterate 6 exact rfl)
  | (apply w_stbo; exact rfl; exact rfl; exact rfl; exact rfl; exact rfl; exact True.intro)
  | ((apply AOps.splitB; exact rfl; exact rfl) <;> intro h)
  | apply AllOf.nil
  | (apply AllOf.cons; exact rfl)
  | (apply AAny.take; exact rfl; exact rfl; kernel_rfl; kernel_rfl)
  | (apply AAny.all; exact rfl)
  | (apply AAny.done; exact rfl)
  | (apply inI_of <;> omega)
  | omega
  | (simp <;> omega))
  · refine .bool Try.results34 rfl ?_
    have : ¬ xss = yss := fun e => h (by rw [e])
    simp [this]
  · refine ⟨i + 1, ⟨by omega, ?_⟩, by omega, ⟨lee rfl (by (repeat (first | exact le_nil | refine le_eq rfl rfl ?_ | refine le_eq rfl (congrArg AV.i (by omega)) ?_))), by (repeat (first | exact lo_nil | refine lo_dead ?_ | refine lo_eq rfl ?_)), rfl, rfl⟩⟩
    have a1 : i < xss.length := by omega
    have a2 : i < yss.length := by omega
    have a3 : xss[i] = yss[i] := by simpa [gets, a1, a2] using h
    rw [List.take_succ_eq_append_getElem a1, List.take_succ_eq_append_getElem a2, h1, a3]
  · have e : i = xss.length := by omega
    subst e
    rw [List.take_length, hlen, List.take_length] at h1
    exact .bool Try.results34 rfl (by simp [h1])

theorem eqInt64SS_t (xss : List (List Int)) : AFnV Try.prog 34 [.intss xss, .intss xss] (.bool true) := by
  have := eqInt64SS_c xss xss
  simpa using this
end Go.Proofs.Ytbalbiliejjnoaa
/-
  Regions that draw their order: a load is taken first where nothing that may come ahead of it writes. No condition.
-/
namespace Go.Proofs.Ytbalbiliejjnoaa
open Go Go.RowKit

/-- Whatever order is picked; behind an operation of G what was there is there still. -/
def wpAnyG (P : Program) (ops : Array Oper) (Q : Exit → Act → World → Prop) (G : Nat → Bool) : Nat → Array Bool → Act → World → Prop
  | 0, listed, a, w => Region.ready .any ops listed = [] ∧ Q .normal a w
  | fuel + 1, listed, a, w =>
    (Region.ready .any ops listed = [] → Q .normal a w) ∧
    ∀ i ∈ Region.ready .any ops listed, wpOp P ops Q i (fun a' w' => (G i = true → Below w.heap.size w w') ∧ wpAnyG P ops Q G fuel (listed.setIfInBounds i true) a' w') a w

theorem wpAny_of_G {P : Program} {ops : Array Oper} {Q : Exit → Act → World → Prop} {G : Nat → Bool} : ∀ (fuel : Nat) (listed : Array Bool) (a : Act) (w : World), wpAnyG P ops Q G fuel listed a w → wpAny P .any ops Q fuel listed a w
  | 0, _, _, _, h => h
  | fuel + 1, _, _, _, h => ⟨h.1, fun i hi => wpOp_mono (fun a' w' h' => wpAny_of_G fuel _ a' w' h'.2) (h.2 i hi)⟩

theorem wpAnyG_first {P : Program} {ops : Array Oper} {Q : Exit → Act → World → Prop} {G : Nat → Bool} {w0 : World} {i : Nat} {oi : Oper} {v : Value} (hi : ops[i]? = some oi) (hsel : ∀ (j : Nat) (o : Oper) cs b, ops[j]? = some o → o.op ≠ .select cs b)
    (hQ : ∀ c a w, Q (.panic c) (a.put oi.dst v) w → Q (.panic c) a w) (W : Nat → Bool)
    (hW : ∀ j oj, ops[j]? = some oj → W j = true → ∃ e ∈ oj.after, Region.binds .any e = true ∧ (e.on = i ∨ W e.on = true)) :
    ∀ (fuel : Nat) (listed : Array Bool) (a : Act) (w : World),
      (∀ j, W j = true → listed.getD j true = false) → listed.getD i true = false →
      (∀ j oj, ops[j]? = some oj → j ≠ i → listed.getD j true = false → W j = false → G j = true ∧ oi.apart ops oj = true) →
      i ∈ Region.ready .any ops listed → YieldsIf P ops (fun w' => Below w0.heap.size w0 w') oi v a → Below w0.heap.size w0 w →
      wpAnyG P ops Q G fuel (listed.setIfInBounds i true) (a.put oi.dst v) w → wpAnyG P ops Q G (fuel + 1) listed a w := by
  intro fuel
  induction fuel with
  | zero =>
    intro listed a w _ _ _ hr hy hS H
    refine ⟨fun h => (by rw [h] at hr; cases hr), fun j hj => ?_⟩
    by_cases hji : j = i
    · subst hji; exact hy.wpOp hi hS ⟨fun _ => Below.refl _ _, H⟩
    · have := ready_mono hj hji
      rw [H.1] at this
      cases this
  | succ fuel ih =>
    intro listed a w hWl hil hfree hr hy hS H
    refine ⟨fun h => (by rw [h] at hr; cases hr), fun j hj => ?_⟩
    by_cases hji : j = i
    · subst hji; exact hy.wpOp hi hS ⟨fun _ => Below.refl _ _, H⟩
    · have h1 := H.2 j (ready_mono hj hji)
      obtain ⟨hjun, oj, hoj, hall⟩ := mem_ready.1 hj
      have hWj : W j = false := by
        cases hc : W j with
        | false => rfl
        | true =>
          obtain ⟨e, he, hb, hor⟩ := hW j oj hoj hc
          have h1 := hall e he hb
          have tf : listed.getD e.on true = false → False := fun h0 => by
            rcases Nat.lt_or_ge e.on listed.size with h' | h'
            · simp [h'] at h0 h1; rw [h0] at h1; cases h1
            · simp [Array.getElem?_eq_none h'] at h1
          rcases hor with hor | hor
          · rw [hor] at tf; exact (tf hil).elim
          · exact (tf (hWl _ hor)).elim
      obtain ⟨hG, hap⟩ := hfree j oj hoj hji hjun hWj
      have h2 := wpOp_putIf hoj hap (fun cs b => hsel i oi cs b hi) (fun cs b => hsel j oj cs b hoj) hQ hy h1
      have gne : ∀ {k : Nat}, k ≠ j → (listed.setIfInBounds j true).getD k true = listed.getD k true := fun hk => getD_set_ne true (Ne.symm hk)
      refine wpOp_mono (fun a' w' h3 => ⟨h3.2.1, ih (listed.setIfInBounds j true) a' w' ?_ ?_ ?_ (ready_mono hr (Ne.symm hji)) h3.1 ?_ ?_⟩) h2
      · intro k hk
        rw [gne (fun e => by subst e; rw [hWj] at hk; cases hk)]
        exact hWl k hk
      · rw [gne (fun e => hji e.symm)]; exact hil
      · intro k ok hk hki hun hWk
        by_cases hkj : k = j
        · subst hkj
          exact hfree k ok hk hki hjun hWk
        · rw [gne hkj] at hun
          exact hfree k ok hk hki hun hWk
      · have := h3.2.1 hG
        exact hS.trans (this.mono hS.size)
      · rw [Array.setIfInBounds_comm _ _ hji]
        exact h3.2.2

theorem wpAnyG_firstY {P : Program} {ops : Array Oper} {Q : Exit → Act → World → Prop} {G : Nat → Bool} {i : Nat} {oi : Oper} {v : Value} (hi : ops[i]? = some oi) (hsel : ∀ (j : Nat) (o : Oper) cs b, ops[j]? = some o → o.op ≠ .select cs b)
    (hQ : ∀ c a w, Q (.panic c) (a.put oi.dst v) w → Q (.panic c) a w) :
    ∀ (fuel : Nat) (listed : Array Bool) (a : Act) (w : World),
      (∀ j oj, ops[j]? = some oj → j ≠ i → listed.getD j true = false → (∀ e ∈ oj.after, Region.binds .any e = true → e.on ≠ i) → oi.apart ops oj = true) →
      i ∈ Region.ready .any ops listed → Yields P ops oi v a →
      wpAnyG P ops Q G fuel (listed.setIfInBounds i true) (a.put oi.dst v) w → wpAnyG P ops Q G (fuel + 1) listed a w := by
  intro fuel
  induction fuel with
  | zero =>
    intro listed a w _ hr hy H
    refine ⟨fun h => (by rw [h] at hr; cases hr), fun j hj => ?_⟩
    by_cases hji : j = i
    · subst hji; exact hy.wpOp hi ⟨fun _ => Below.refl _ _, H⟩
    · have := ready_mono hj hji
      rw [H.1] at this
      cases this
  | succ fuel ih =>
    intro listed a w hfree hr hy H
    refine ⟨fun h => (by rw [h] at hr; cases hr), fun j hj => ?_⟩
    by_cases hji : j = i
    · subst hji; exact hy.wpOp hi ⟨fun _ => Below.refl _ _, H⟩
    · have h1 := H.2 j (ready_mono hj hji)
      obtain ⟨hjun, oj, hoj, hall⟩ := mem_ready.1 hj
      have hnot : ∀ e ∈ oj.after, Region.binds .any e = true → e.on ≠ i := fun e he hb heq => by
        have h1 := hall e he hb
        have h0 := (mem_ready.1 hr).1
        rw [heq] at h1
        rcases Nat.lt_or_ge i listed.size with h' | h'
        · simp [h'] at h0 h1; rw [h0] at h1; cases h1
        · simp [Array.getElem?_eq_none h'] at h1
      have h2 := wpOp_put hoj (hfree j oj hoj hji hjun hnot) (fun cs b => hsel i oi cs b hi) (fun cs b => hsel j oj cs b hoj) hQ hy h1
      have hfree' : ∀ k ok, ops[k]? = some ok → k ≠ i → (listed.setIfInBounds j true).getD k true = false →
          (∀ e ∈ ok.after, Region.binds .any e = true → e.on ≠ i) → oi.apart ops ok = true := fun k ok hk hki hun hno => by
        refine hfree k ok hk hki ?_ hno
        by_cases hjk : j = k
        · subst hjk; exact hjun
        · rw [getD_set_ne true hjk] at hun; exact hun
      refine wpOp_mono (fun a' w' h3 => ⟨h3.2.1, ih (listed.setIfInBounds j true) a' w' hfree' (ready_mono hr (Ne.symm hji)) h3.1 ?_⟩) h2
      rw [Array.setIfInBounds_comm _ _ hji]
      exact h3.2.2

/-- What writes nothing: no world asked, a load, a call of one of these functions. -/
def gentB (qs : List Nat) (o : Oper) : Bool :=
  wlessB o || match o.op with
    | .load _ _ => true
    | .call c => match c.callee with
      | .value (.func f) => qs.contains f
      | _ => false
    | _ => false
def gentle (qs : List Nat) (l : List Oper) (j : Nat) : Bool := match l[j]? with | some o => gentB qs o | none => false

/-- Which ones wait for i. -/
def waitsFor (i : Nat) : List Oper → List Bool → List Bool
  | [], acc => acc
  | o :: os, acc => waitsFor i os (acc ++ [o.after.toList.any fun e => Region.binds .any e && (e.on == i || acc.getD e.on false)])
def okW (l : List Oper) (i : Nat) (W : List Bool) : Bool := (List.range l.length).all fun j => !W.getD j false || match l[j]? with | some o => o.after.toList.any fun e => Region.binds .any e && (e.on == i || W.getD e.on false) | none => false
/-- i may be taken first. -/
def freeG (qs : List Nat) (l : List Oper) (listed : List Bool) (i : Nat) : Bool :=
  let W := waitsFor i l []
  okW l i W && W.length == l.length && (List.range l.length).all (fun j => !W.getD j false || !listed.getD j true) && !listed.getD i true &&
    match l[i]? with
    | none => false
    | some oi => (List.range l.length).all fun j => j == i || listed.getD j true || W.getD j false || match l[j]? with
      | some oj => gentB qs oj && oi.apart l.toArray oj
      | none => true

def AAnyG (P : Program) (qs : List Nat) (l : List Oper) (fuel : Nat) (listed : List Bool) (K : APost) (env : Env) (os : List AO) : Prop :=
  ∀ base w0 w gs tm, Rel base w gs env os tm → Below base w0 w → ∀ X Rt, wpAnyG P l.toArray (Post base w0 K X Rt) (gentle qs l) fuel listed.toArray ⟨tm, []⟩ w

/-- Each of these comes up next. -/
def AllOfG (P : Program) (qs : List Nat) (l : List Oper) (fuel : Nat) (listed : List Bool) (K : APost) (env : Env) (os : List AO) : List Nat → Prop
  | [] => True
  | i :: is => (∃ o, l[i]? = some o ∧ AOps P (cond (gentB qs o) .quiet .seq) l [o] (fun env os => AAnyG P qs l fuel (listed.set i true) K env os) env os) ∧ AllOfG P qs l fuel listed K env os is

section
variable {P : Program} {N : APost} {X : Nat → APost} {Rt : APost} {env : Env} {os : List AO} {l : List Oper} {K : APost} {fuel : Nat} {listed : List Bool} {qs : List Nat}

theorem AllOfG.get : ∀ {rs : List Nat}, AllOfG P qs l fuel listed K env os rs → ∀ i ∈ rs, ∃ o, l[i]? = some o ∧ AOps P (cond (gentB qs o) .quiet .seq) l [o] (fun env os => AAnyG P qs l fuel (listed.set i true) K env os) env os
  | [], _, i, h => by cases h
  | j :: rs, h, i, hi => by
    rcases List.mem_cons.1 hi with rfl | hi
    · exact h.1
    · exact AllOfG.get h.2 i hi
theorem AllOfG.nil : AllOfG P qs l fuel listed K env os [] := trivial
theorem AllOfG.consQ {i : Nat} {o : Oper} {is : List Nat} (ho : l[i]? = some o) (hg : gentB qs o = true) (h : AOps P .quiet l [o] (fun env os => AAnyG P qs l fuel (listed.set i true) K env os) env os) (hs : AllOfG P qs l fuel listed K env os is) :
    AllOfG P qs l fuel listed K env os (i :: is) := ⟨⟨o, ho, by rw [hg]; exact h⟩, hs⟩
theorem AllOfG.consS {i : Nat} {o : Oper} {is : List Nat} (ho : l[i]? = some o) (hg : gentB qs o = false) (h : AOps P .seq l [o] (fun env os => AAnyG P qs l fuel (listed.set i true) K env os) env os) (hs : AllOfG P qs l fuel listed K env os is) :
    AllOfG P qs l fuel listed K env os (i :: is) := ⟨⟨o, ho, by rw [hg]; exact h⟩, hs⟩

theorem AAnyG.all {i : Nat} {is : List Nat} (hr : rdyGo listed 0 l = i :: is) (h : AllOfG P qs l fuel listed K env os (i :: is)) : AAnyG P qs l (fuel + 1) listed K env os := by
  intro base w0 w gs tm hrel hb X Rt
  refine ⟨fun h0 => ?_, fun j hj => ?_⟩
  · have : i ∈ Region.ready .any l.toArray listed.toArray := mem_rdy.2 (by rw [hr]; simp)
    rw [h0] at this; cases this
  · have hj' := mem_rdy.1 hj
    rw [hr] at hj'
    obtain ⟨o, ho, hop⟩ := h.get j hj'
    have ho' : l.toArray[j]? = some o := by simpa using ho
    have hgj : gentle qs l j = gentB qs o := by unfold gentle; rw [ho]
    have kk : ∀ a w', Post base w0 (fun env os => AAnyG P qs l fuel (listed.set j true) K env os) X Rt .normal a w' → wpAnyG P l.toArray (Post base w0 K X Rt) (gentle qs l) fuel (listed.toArray.setIfInBounds j true) a w' := by
      rintro a w' ⟨env', os', gs', h1, h2, h3, h4⟩
      have ea : a = ⟨a.tmps, []⟩ := by cases a; simp_all
      rw [ea]
      have := h4 base w0 w' gs' a.tmps h1 h3 X Rt
      rwa [show listed.toArray.setIfInBounds j true = (listed.set j true).toArray from by simp]
    cases hg : gentB qs o with
    | false =>
      rw [hg] at hop
      have := hop base w0 w gs tm hrel hb X Rt
      unfold wpOp
      rw [ho']
      unfold wpList at this
      simp only
      rw [hgj, hg]
      split
      · rename_i hw
        rw [if_pos hw] at this
        rcases this with this | ⟨h1, ⟨a, w', h2⟩⟩
        · exact .inl (Oper.wp_mono2 (fun a w' h => ⟨fun e => (by cases e), kk a w' h⟩) (fun _ _ _ h => (h : False).elim) (fun ⟨_, _, h⟩ => (h : False).elim) this)
        · exact (h2 : False).elim
      · rename_i hw
        rw [if_neg hw] at this
        exact ⟨fun e => (by cases e), kk _ _ this⟩
    | true =>
      rw [hg] at hop
      have := hop base w gs tm hrel
      unfold wpOp
      rw [ho']
      unfold wpQuiet at this
      simp only
      have kq : ∀ (a : Act) w', Below w.heap.size w w' → wpQuiet P l.toArray (fun w' => Below w.heap.size w w') (fun a' => ∃ env' os' gs', AAnyG P qs l fuel (listed.set j true) K env' os' ∧ a'.defers = [] ∧ ∀ w', Below w.heap.size w w' → Rel base w' gs' env' os' a'.tmps) [] a →
          (gentle qs l j = true → Below w.heap.size w w') ∧ wpAnyG P l.toArray (Post base w0 K X Rt) (gentle qs l) fuel (listed.toArray.setIfInBounds j true) a w' := by
        rintro a w' hbw ⟨env', os', gs', h1, h2, h3⟩
        exact ⟨fun _ => hbw, kk a w' ⟨env', os', gs', h3 w' hbw, h2, hb.trans (hbw.mono hrel.hb), h1⟩⟩
      split
      · rename_i hw
        rw [if_pos hw] at this
        obtain ⟨v, hv, hn⟩ := this
        refine .inl (Oper.wp_of_quiet (C := fun w' => Below w.heap.size w w') (K := fun a' => a' = Act.put ⟨tm, []⟩ o.dst v) (Below.refl _ _) ?_ ⟨v, hv, rfl⟩)
        intro a' w' hw' he
        subst he
        exact kq _ w' hw' hn
      · rename_i hw
        rw [if_neg hw] at this
        exact kq _ w (Below.refl _ _) this

theorem AAnyG.done (hr : rdyGo listed 0 l = []) (h : K env os) : AAnyG P qs l fuel listed K env os := by
  intro base w0 w gs tm hrel hb X Rt
  have hr' : Region.ready .any l.toArray listed.toArray = [] := by
    apply List.eq_nil_iff_forall_not_mem.2
    intro j hj
    have := mem_rdy.1 hj
    rw [hr] at this; cases this
  cases fuel with
  | zero => exact ⟨hr', env, os, gs, hrel, rfl, hb, h⟩
  | succ n => exact ⟨fun _ => ⟨env, os, gs, hrel, rfl, hb, h⟩, by rw [hr']; intro j hj; cases hj⟩

theorem run_load_val {P : Program} {ρ : Operand → Value} {d : Option Tmp} {t : TypeId} {x : Operand} {ty : TypeId} {pos : String} {af : Array Edge} {g : Option (Nat × Bool)} {w w' : World} {n : Next} (h : (execOp ρ ⟨d, .load t x, ty, pos, af, g⟩).run P w = .ok n w') : ∃ u, n = .value u := by
  simp only [execOp, Sem.run_bind, Sem.run_pure, Result.andThen] at h
  split at h
  · cases h; exact ⟨_, rfl⟩
  · cases h

theorem free_parts {i : Nat} {oi : Oper} (hi : l[i]? = some oi) (h : freeG qs l listed i = true) : ∃ W : Nat → Bool,
    (∀ j oj, l[j]? = some oj → W j = true → ∃ e ∈ oj.after, Region.binds .any e = true ∧ (e.on = i ∨ W e.on = true)) ∧ (∀ j, W j = true → listed.getD j true = false) ∧ listed.getD i true = false ∧
    (∀ j oj, l[j]? = some oj → j ≠ i → listed.getD j true = false → W j = false → gentle qs l j = true ∧ oi.apart l.toArray oj = true) := by
  simp only [freeG, hi, okW, Bool.and_eq_true, List.all_eq_true, List.mem_range] at h
  obtain ⟨⟨⟨⟨h1, h2⟩, h3⟩, h4⟩, h5⟩ := h
  have hlen : (waitsFor i l []).length = l.length := by simpa using h2
  have lt : ∀ j, (waitsFor i l []).getD j false = true → j < l.length := fun j hj => by
    rcases Nat.lt_or_ge j l.length with h | h
    · exact h
    · rw [List.getD_eq_getElem?_getD, List.getElem?_eq_none (by omega)] at hj; cases hj
  refine ⟨fun j => (waitsFor i l []).getD j false, fun j oj hj hw => ?_, fun j hw => ?_, by simpa using h4, fun j oj hj hne hun hw => ?_⟩
  · have := h1 j (lt j hw)
    simp only [hw, hj, Bool.not_true, Bool.false_or, List.any_eq_true, Bool.and_eq_true, Bool.or_eq_true, beq_iff_eq] at this
    obtain ⟨e, he, hb, hor⟩ := this
    exact ⟨e, by simpa using he, hb, hor⟩
  · have := h3 j (lt j hw)
    simp only [hw, Bool.not_true, Bool.false_or] at this
    simpa using this
  · have := h5 j (List.getElem?_eq_some_iff.1 hj).1
    have hne' : (j == i) = false := by simpa using hne
    simp only [hj, hne', hun, hw, Bool.false_or, Bool.and_eq_true] at this
    exact ⟨by unfold gentle; rw [hj]; exact this.1, this.2⟩

/-- An operation that needs no world is taken first. -/
theorem AAnyG.takeW {i : Nat} {o : Oper} (hi : findW l (rdyGo listed 0 l) = some i) (ho : l[i]? = some o) (hs : Region.noSelect l.toArray = true) (hf : Region.free .any l.toArray listed.toArray i = true)
    (h : AOps P .wless l [o] (fun env os => AAnyG P qs l fuel (listed.set i true) K env os) env os) : AAnyG P qs l (fuel + 1) listed K env os := by
  intro base w0 w gs tm hrel hb X Rt
  obtain ⟨v, hy, env', os', gs', hk, hd, hr'⟩ := h base w gs tm hrel
  have ho' : l.toArray[i]? = some o := by simpa using ho
  refine wpAnyG_firstY (oi := o) (v := v) ho' (Region.noSelect_spec hs) (fun _ _ _ h => h.elim) fuel listed.toArray _ _ (Region.free_spec ho' hf) (mem_rdy.2 (findW_mem hi)) hy ?_
  have := hk base w0 w gs' _ hr' hb X Rt
  rw [show listed.toArray.setIfInBounds i true = (listed.set i true).toArray from by simp]
  have e : (⟨(Act.put ⟨tm, []⟩ o.dst v).tmps, []⟩ : Act) = Act.put ⟨tm, []⟩ o.dst v := by
    have : (Act.put ⟨tm, []⟩ o.dst v).defers = [] := hd
    generalize Act.put ⟨tm, []⟩ o.dst v = a at this
    cases a; simp_all
  rw [e] at this
  exact this

def isLoad (o : Oper) : Bool := match o.op with | .load _ _ => true | _ => false
def findL (qs : List Nat) (l : List Oper) (listed : List Bool) : List Nat → Option Nat
  | [] => none
  | i :: is => cond ((match l[i]? with | some o => isLoad o | none => false) && freeG qs l listed i) (some i) (findL qs l listed is)
theorem findL_spec : ∀ {is : List Nat} {i : Nat}, findL qs l listed is = some i → i ∈ is ∧ freeG qs l listed i = true
  | [], _, h => by cases h
  | j :: is, i, h => by
    simp only [findL] at h
    cases hb : ((match l[j]? with | some o => isLoad o | none => false) && freeG qs l listed j) with
    | true => rw [hb] at h; simp at h; subst h; rw [Bool.and_eq_true] at hb; exact ⟨by simp, hb.2⟩
    | false => rw [hb] at h; have := findL_spec h; exact ⟨List.mem_cons_of_mem _ this.1, this.2⟩

/-- A load is taken first. -/
theorem AAnyG.takeL {i : Nat} {d : Option Tmp} {t : TypeId} {x : Operand} {ty : TypeId} {pos : String} {af : Array Edge} {g : Option (Nat × Bool)} (hi : findL qs l listed (rdyGo listed 0 l) = some i) (ho : l[i]? = some ⟨d, .load t x, ty, pos, af, g⟩) (hs : Region.noSelect l.toArray = true)
    (h : AOps P .quiet l [⟨d, .load t x, ty, pos, af, g⟩] (fun env os => AAnyG P qs l fuel (listed.set i true) K env os) env os) : AAnyG P qs l (fuel + 1) listed K env os := by
  intro base w0 w gs tm hrel hb X Rt
  have hq := h base w gs tm hrel
  obtain ⟨hm, hf⟩ := findL_spec hi
  obtain ⟨W, f1, f2, f3, f4⟩ := free_parts ho hf
  have key : ∀ v, YieldsIf P l.toArray (fun w' => Below w.heap.size w w') ⟨d, .load t x, ty, pos, af, g⟩ v ⟨tm, []⟩ →
      wpQuiet P l.toArray (fun w' => Below w.heap.size w w') (fun a' => ∃ env' os' gs', AAnyG P qs l fuel (listed.set i true) K env' os' ∧ a'.defers = [] ∧ ∀ w', Below w.heap.size w w' → Rel base w' gs' env' os' a'.tmps) [] (Act.put ⟨tm, []⟩ d v) →
      wpAnyG P l.toArray (Post base w0 K X Rt) (gentle qs l) (fuel + 1) listed.toArray ⟨tm, []⟩ w := by
    rintro v hy ⟨env', os', gs', hk, hd, hr'⟩
    refine wpAnyG_first (w0 := w) (v := v) (by simpa using ho) (Region.noSelect_spec hs) (fun _ _ _ h => h.elim) W (fun j oj hj => f1 j oj (by simpa using hj)) fuel listed.toArray _ _
      (fun j hj => by have := f2 j hj; simpa [List.getD_eq_getElem?_getD, Array.getD_eq_getD_getElem?] using this) (by simpa [List.getD_eq_getElem?_getD, Array.getD_eq_getD_getElem?] using f3)
      (fun j oj hj hne hun => f4 j oj (by simpa using hj) hne (by simpa [List.getD_eq_getElem?_getD, Array.getD_eq_getD_getElem?] using hun)) (mem_rdy.2 hm) hy (Below.refl _ _) ?_
    have := hk base w0 w gs' _ (hr' w (Below.refl _ _)) hb X Rt
    rw [show listed.toArray.setIfInBounds i true = (listed.set i true).toArray from by simp]
    have e : (⟨(Act.put ⟨tm, []⟩ d v).tmps, []⟩ : Act) = Act.put ⟨tm, []⟩ d v := by
      have : (Act.put ⟨tm, []⟩ d v).defers = [] := hd
      generalize Act.put ⟨tm, []⟩ d v = a at this
      cases a; simp_all
    rw [e] at this
    exact this
  unfold wpQuiet at hq
  split at hq
  · rename_i hw
    obtain ⟨v, hv, hn⟩ := hq
    refine key v (.inl ⟨hw, fun w' hw' => ?_⟩) hn
    have := hv w' hw'
    unfold Oper.quietAt at this
    generalize hrun : (execOp (Act.eval ⟨tm, []⟩) ⟨d, .load t x, ty, pos, af, g⟩).run P w' = r at this
    cases r with
    | ok n w1 =>
      obtain ⟨u, rfl⟩ := run_load_val hrun
      simp only [Oper.quietUpon] at this
      rw [this.1, this.2]
    | halt y w1 => simp only [Oper.quietUpon] at this
  · rename_i hw
    exact key undef (.inr ⟨by simpa using hw, rfl⟩) hq

/-- A region that draws its order: every order comes to a state that may be seen as (envC, osC). 'qs': functions that are only called for their plain values. -/
theorem AWp.regionG (qs : List Nat) {id : Nat} (hm : P.follows .mixedOrders = true) {envC : Env} {osC : List AO} {n : Nat} (hn : l.length = n) {listed : List Bool} (hl : List.replicate n false = listed)
    (h : AAnyG P qs l n listed (fun e o => Fit e o envC osC ∨ ∃ σ, FitS σ e o envC osC) env os) (hk : N envC osC) : AWp P (.region id l.toArray true) N X Rt env os := by
  refine AWp.regionA hm hn hl (fun base w0 w gs tm hr hb X Rt => wpAny_of_G _ _ _ _ (h base w0 w gs tm hr hb X Rt)) hk
end
end Go.Proofs.Ytbalbiliejjnoaa
/-
  A row of own rows that grows in its place. No condition.
-/
namespace Go.Proofs.Ytbalbiliejjnoaa
open Go Go.RowKit

theorem ownsRow_lower {w : World} {base base' : Nat} {e : TypeId} {size : Nat} {v : Value} {n : Nat} {xs : List Value} (h : w.ownsRow base e size v n xs) (hb : base' ≤ base) : w.ownsRow base' e size v n xs := by
  obtain ⟨h1, h2⟩ := h
  refine ⟨h1, ?_⟩
  rcases h2 with h2 | ⟨g, cap, cur, hv, hb1, r⟩
  · exact .inl h2
  · exact .inr ⟨g, cap, cur, hv, Nat.le_trans hb hb1, r⟩
/-- Own rows, of which row i has grown and is not yet back in its cell. -/
def PendP (e e2 : TypeId) (xss : List (List Int)) (i : Nat) (base : Nat) (w : World) (g : Gh) : Prop :=
  ∃ (cs : List Value) (bs : List (List Nat)) (mb : List Nat), w.ownsRow base e 1 g.v cs.length cs ∧ cs.length = xss.length ∧ bs.length = xss.length ∧ g.rows.length = xss.length ∧ (∀ j : Nat, j ≠ i → g.rows[j]? = cs[j]?) ∧
    (∀ (j : Nat) u, g.rows[j]? = some u → w.ownsRow base e2 1 u (xss.getD j []).length ((xss.getD j []).map (Value.int .i64)) ∧ (∀ x ∈ xss.getD j [], inI x) ∧ u.ownBlock.toList = bs.getD j []) ∧
    ((g.v.ownBlock = none ∧ mb = []) ∨ (g.v.ownBlock = some g.b ∧ mb = [g.b])) ∧ g.bl = mb ++ bs.flatten ∧ g.bl.Nodup
theorem mem_main {g : Gh} {mb : List Nat} (h : (g.v.ownBlock = none ∧ mb = []) ∨ (g.v.ownBlock = some g.b ∧ mb = [g.b])) {k : Nat} (hk : g.v.ownBlock = some k) : k ∈ mb := by
  rcases h with ⟨h1, _⟩ | ⟨h1, h2⟩
  · rw [h1] at hk; cases hk
  · rw [h1] at hk; cases hk; rw [h2]; simp
theorem mem_row {bs : List (List Nat)} {j : Nat} {u : Value} (hj : j < bs.length) (h : u.ownBlock.toList = bs.getD j []) {k : Nat} (hk : u.ownBlock = some k) : k ∈ bs.flatten := by
  refine List.mem_flatten.2 ⟨bs.getD j [], ?_, by rw [← h, hk]; simp⟩
  rw [List.getD_eq_getElem?_getD, List.getElem?_eq_getElem hj]; exact List.getElem_mem _
def pendOb (e e2 : TypeId) (xss : List (List Int)) (i : Nat) : Ob where
  p := PendP e e2 xss i
  up {base w w' g} hb h := by
    obtain ⟨cs, bs, mb, a1, a2, a3, a4, a5, a6, a7, a8, a9⟩ := h
    refine ⟨cs, bs, mb, ownsRow_of_block a1 fun k hk => hb k (by rw [a8]; exact List.mem_append.2 (.inl (mem_main a7 hk))), a2, a3, a4, a5, fun j u hu => ?_, a7, a8, a9⟩
    obtain ⟨r1, r2, r3⟩ := a6 j u hu
    have hj := (List.getElem?_eq_some_iff.1 hu).1
    exact ⟨ownsRow_of_block r1 fun k hk => hb k (by rw [a8]; exact List.mem_append.2 (.inr (mem_row (by omega) r3 hk))), r2, r3⟩
  lower hl h := by
    obtain ⟨cs, bs, mb, a1, a2, a3, a4, a5, a6, a7, a8, a9⟩ := h
    exact ⟨cs, bs, mb, ownsRow_lower a1 hl, a2, a3, a4, a5, fun j u hu => ⟨ownsRow_lower (a6 j u hu).1 hl, (a6 j u hu).2⟩, a7, a8, a9⟩
  one h := by
    obtain ⟨cs, bs, mb, a1, _⟩ := h
    obtain ⟨a, c, e⟩ := ownsRow_slice a1
    rw [e]; exact ⟨rfl, rfl⟩

theorem nodup_setrow {mb : List Nat} {bs : List (List Nat)} {i : Nat} {c : List Nat} (h : (mb ++ bs.flatten).Nodup) (hi : i < bs.length) (hc : c.Nodup) (hn : ∀ x ∈ c, x ∈ bs.getD i [] ∨ x ∉ mb ++ bs.flatten) : (mb ++ (bs.set i c).flatten).Nodup := by
  rw [flatten_set c hi]
  rw [flatten_at hi] at h hn
  generalize (bs.take i).flatten = A at *
  generalize (bs.drop (i + 1)).flatten = B at *
  generalize bs.getD i [] = R at *
  simp only [List.nodup_append, List.mem_append] at h hn ⊢
  obtain ⟨h1, ⟨h2, ⟨h3, h4, h5⟩, h6⟩, h7⟩ := h
  refine ⟨h1, ⟨h2, ⟨hc, h4, fun a ha b hb e => ?_⟩, fun a ha b hb e => ?_⟩, fun a ha b hb e => ?_⟩
  · subst e
    rcases hn a ha with hr | hr
    · exact h5 a hr a hb rfl
    · exact hr (.inr (.inr (.inr hb)))
  · subst e
    rcases hb with hb | hb
    · rcases hn a hb with hr | hr
      · exact h6 a ha a (.inl hr) rfl
      · exact hr (.inr (.inl ha))
    · exact h6 a ha a (.inr hb) rfl
  · subst e
    rcases hb with hb | hb | hb
    · exact h7 a ha a (.inl hb) rfl
    · rcases hn a hb with hr | hr
      · exact h7 a ha a (.inr (.inl hr)) rfl
      · exact hr (.inl ha)
    · exact h7 a ha a (.inr (.inr hb)) rfl
theorem getD_set_if (xss : List (List Int)) (i j : Nat) (ys : List Int) (hi : i < xss.length) : (xss.set i ys).getD j [] = if j = i then ys else xss.getD j [] := by
  simp only [List.getD_eq_getElem?_getD, List.getElem?_set]
  by_cases e : i = j
  · subst e; simp [hi]
  · have e' : ¬ j = i := fun h => e h.symm
    simp [e, e']
theorem getD_set_ifn (bs : List (List Nat)) (i j : Nat) (c : List Nat) (hi : i < bs.length) : (bs.set i c).getD j [] = if j = i then c else bs.getD j [] := by
  simp only [List.getD_eq_getElem?_getD, List.getElem?_set]
  by_cases e : i = j
  · subst e; simp [hi]
  · have e' : ¬ j = i := fun h => e h.symm
    simp [e, e']

section
variable {P : Program} {env : Env} {os : List AO} {d : Option Tmp} {ty : TypeId} {pos : String} {af : Array Edge} {g : Option (Nat × Bool)}
set_option maxHeartbeats 2000000 in
/-- Numbers are appended to a row. -/
theorem l_append_orow {t2 e2' : TypeId} {bytes : Nat} [ht : TSlice P t2 e2'] [he : TElem P e2' (.int .i64 0) bytes] {x y : Operand} {h i k : Nat} {e e2 e3 : TypeId} {xss : List (List Int)} {ys : List Int} (hx : AV.ev env x = .orow h i) (hs : os[h]? = some (.sls e e2 xss)) (hi : i < xss.length) (he2 : e2 = e2')
    (hy : AV.ev env y = .own k) (hk : os[k]? = some (.sli e3 ys)) (hhk : (h == k) = false) (hp : 0 < ys.length) (hb : ((xss.getD i []).length + ys.length) * bytes ≤ 140737488355328) :
    LOp P ⟨d, .call { callee := .builtin .append, args := #[x, y], argTypes := #[t2, t2] }, ty, pos, af, g⟩ env os (.orow h i) (env.mp (AV.noRow h)) (((os.map (AO.via (AV.noRow h) h)).set h (.ob (pendOb e e2 (xss.set i (xss.getD i [] ++ ys)) i))).set k .dead) := by
  subst he2
  have hne : h ≠ k := by simpa using hhk
  intro base w gs tm hr
  have hxv := hr.ev x
  have hyv := hr.ev y
  rw [hx] at hxv
  rw [hy] at hyv
  generalize hv : Act.eval ⟨tm, []⟩ x = v at hxv
  generalize hu : Act.eval ⟨tm, []⟩ y = u at hyv
  cases hxv with
  | @orow _ _ gh _ hg hrow =>
  cases hyv with
  | @own _ gk hgk =>
    obtain ⟨vs, bs, mb, a1, a2, a3, a4, a5, a6, a7, a8⟩ := hr.ho _ _ _ hg hs
    obtain ⟨b1, b2, b3⟩ := hr.ho _ _ _ hgk hk
    have hrv : vs[i]? = some v := by rw [← a4]; exact hrow
    obtain ⟨r1, r2, r3⟩ := a5 i v hrv
    have hiv : i < vs.length := by omega
    have hib : i < bs.length := by omega
    obtain ⟨bk, ck, q1, q2, q3, q4⟩ := own_slice b1 (i := 0) (by simpa using hp)
    have hcells : ∀ (j : Nat) z, (ys.map (Value.int .i64))[j]? = some z → w.cell? ((⟨bk, 0, none⟩ : Addr).add j) = some z := by
      intro j z hz
      have hj := (List.getElem?_eq_some_iff.1 hz).1
      obtain ⟨bk', ck', p1, p2, p3, _⟩ := own_slice b1 (i := j) hj
      have eb : bk' = bk := by rw [q2] at p2; exact (Option.some.inj p2).symm
      subst eb
      rw [add_none, Nat.zero_add, p3]; exact hz
    obtain ⟨ii, hi', hsz, hz, hby⟩ := he.info
    have hml : (xss.getD i []).length + ys.length ≤ maxLen := by
      have hb0 := he.pos
      have : (xss.getD i []).length + ys.length ≤ ((xss.getD i []).length + ys.length) * bytes := Nat.le_mul_of_pos_right _ hb0
      simp only [maxLen]; omega
    obtain ⟨v', w', s1, s2, s3, _, s5⟩ := run_append_own_at (P := P) w base t2 ty e2 ii _ 1 bytes ht.und hi' hz hsz hby rfl (by omega) v _ _ r1 ⟨bk, 0, none⟩ ys.length ck (ys.map (Value.int .i64)) (by simp) hcells
      (fun z hz => by obtain ⟨n, _, rfl⟩ := List.mem_map.1 hz; rfl) hml hb hr.hb
    have hsub : ∀ b, v.ownBlock = some b → b ∈ bs.flatten := fun b hb => mem_row hib r3 hb
    have hgl : ∀ b, b ∈ gh.bl → b < w.heap.size := fun b hb => (hr.hn _ _ _ hg hs (by simp) b hb).2
    have hother : ∀ c, c < w.heap.size → c ∉ gh.bl → w'.heap[c]? = w.heap[c]? := fun c hc hcb => s3.block c hc fun e => hcb (by rw [a7]; exact List.mem_append.2 (.inr (hsub c e.symm)))
    have hvo : ∀ b, v'.ownBlock = some b → (v.ownBlock = some b ∨ b = w.heap.size) ∧ b < w'.heap.size := fun b hb => by
      refine ⟨?_, ?_⟩
      · rcases s5 with s5 | s5
        · left; rw [← s5]; exact hb
        · right; rw [s5] at hb; exact (Option.some.inj hb).symm
      · rcases s2.2 with ⟨e1, _⟩ | ⟨gg, cc, cur, e1, _, hgg, _⟩
        · rw [e1] at hb; cases hb
        · rw [e1] at hb; cases hb; exact (Array.getElem?_eq_some_iff.1 hgg).1
    let g' : Gh := ⟨gh.v, gh.b, mb ++ (bs.set i v'.ownBlock.toList).flatten, gh.rows.set i v'⟩
    have hhg : h < gs.length := (List.getElem?_eq_some_iff.1 hg).1
    have sv : SameV h gs (gs.set h g') := by
      refine ⟨fun j z hj hz => ?_, fun z hz => ⟨g', by simp [hhg], ?_⟩⟩
      · rw [List.getElem?_set, if_neg (fun e => hj e.symm)]; exact hz
      · rw [hg] at hz; cases hz; exact ⟨rfl, rfl⟩
    have hmem : ∀ c, c ∈ g'.bl → c ∈ gh.bl ∨ c = w.heap.size ∧ c < w'.heap.size := by
      intro c hc
      rcases List.mem_append.1 hc with hc | hc
      · left; rw [a7]; exact List.mem_append.2 (.inl hc)
      · rw [flatten_set _ hib] at hc
        rcases List.mem_append.1 hc with hc | hc
        · left; rw [a7, flatten_at hib]; simp [hc]
        · rcases List.mem_append.1 hc with hc | hc
          · have hc' : v'.ownBlock = some c := by
              cases hvb : v'.ownBlock with
              | none => rw [hvb] at hc; simp at hc
              | some z => rw [hvb] at hc; simp at hc; rw [hc]
            obtain ⟨h1, h2⟩ := hvo c hc'
            rcases h1 with h1 | h1
            · left; rw [a7]; exact List.mem_append.2 (.inr (hsub c h1))
            · exact .inr ⟨h1, h2⟩
          · left; rw [a7, flatten_at hib]; simp [hc]
    refine ⟨v', w', gs.set h g', .inl ?_, hr.absorb hg hs trivial hgk hk trivial hne g' _ (AV.noRow h) rfl hother s3.size ?_ (fun kp hv => hv.noRow kp sv) ?_, ?_, ?_⟩
    · simp only [execOp, resolve, invoke, builtin, Sem.run_bind, Sem.run_pure, Result.andThen_ok, List.map_toArray, List.map_cons, List.map_nil, hv, hu, q1, s1]
    · intro c hc
      rcases hmem c hc with h1 | ⟨h1, h2⟩
      · exact ⟨.inl h1, Nat.lt_of_lt_of_le (hgl c h1) s3.size⟩
      · exact ⟨.inr (.inr (Nat.le_of_eq h1.symm)), h2⟩
    · intro kp
      have a8' := a8
      rw [a7] at a8'
      have hnot : ∀ c, c < w.heap.size → v.ownBlock ≠ some c → w'.heap[c]? = w.heap[c]? := fun c hc hn => s3.block c hc fun e => hn e.symm
      refine ⟨vs, bs.set i v'.ownBlock.toList, mb, ?_, by simp [a2], by simp [a3], by simp [g', a4, a2], fun j hj => ?_, fun j z hz => ?_, a6, rfl, ?_⟩
      · refine ownsRow_of_block a1 fun c hc => hnot c (hgl c (by rw [a7]; exact List.mem_append.2 (.inl (mem_main a6 hc)))) fun e => ?_
        exact (List.nodup_append.1 a8').2.2 c (mem_main a6 hc) c (hsub c e) rfl
      · show (gh.rows.set i v')[j]? = _
        rw [List.getElem?_set, if_neg (fun e => hj e.symm), a4]
      · have hz' : (gh.rows.set i v')[j]? = some z := hz
        rw [List.getElem?_set] at hz'
        rw [getD_set_if _ _ _ _ hi, getD_set_ifn _ _ _ _ hib]
        by_cases e : j = i
        · subst e
          rw [if_pos rfl, if_pos (by rw [a4]; exact hiv)] at hz'
          cases hz'
          rw [if_pos rfl, if_pos rfl]
          refine ⟨by rw [List.length_append, List.map_append]; exact s2, fun n hn => ?_, rfl⟩
          rcases List.mem_append.1 hn with hn | hn
          · exact r2 n hn
          · exact b2 n hn
        · rw [if_neg (fun e' => e e'.symm), a4] at hz'
          rw [if_neg e, if_neg e]
          obtain ⟨t1, t2, t3⟩ := a5 j z hz'
          have hjl := (List.getElem?_eq_some_iff.1 hz').1
          refine ⟨ownsRow_of_block t1 fun c hc => hnot c (hgl c (by rw [a7]; exact List.mem_append.2 (.inr (mem_row (by omega) t3 hc)))) fun ev => ?_, t2, t3⟩
          have hfl := (List.nodup_append.1 a8').2.1
          have c1 : c ∈ bs.getD j [] := by rw [← t3, hc]; simp
          have c2 : c ∈ bs.getD i [] := by rw [← r3, ev]; simp
          have hpw := (List.pairwise_flatten.1 hfl).2
          rw [List.getD_eq_getElem?_getD, List.getElem?_eq_getElem (by omega)] at c1 c2
          have hpw' := List.pairwise_iff_getElem.1 hpw
          rcases Nat.lt_or_gt_of_ne e with hlt | hlt
          · exact hpw' j i (by omega) hib hlt c c1 c c2 rfl
          · exact hpw' i j hib (by omega) hlt c c2 c c1 rfl
      · refine nodup_setrow a8' hib ?_ fun c hc => ?_
        · cases v'.ownBlock <;> simp
        · have hc' : v'.ownBlock = some c := by
            cases hvb : v'.ownBlock with
            | none => rw [hvb] at hc; simp at hc
            | some z => rw [hvb] at hc; simp at hc; rw [hc]
          rcases (hvo c hc').1 with h1 | h1
          · left; rw [← r3, h1]; simp
          · right; intro hm
            have := hgl c (by rw [a7]; exact hm)
            omega
    · have hr' : (gh.rows.set i v')[i]? = some v' := by rw [List.getElem?_set, if_pos rfl, if_pos (by rw [a4]; exact hiv)]
      exact RV.orow (g := g') (by simp [hhg]) hr'
    · refine ⟨s3.os, s3.tape, s3.output, s3.size, fun b hb => s3.block b (by have := hr.hb; omega) fun e => ?_⟩
      have := (hr.hn _ _ _ hg hs (by simp) b (by rw [a7]; exact List.mem_append.2 (.inr (hsub b e.symm)))).1
      omega

/-- A grown row goes back into its cell. -/
theorem l_store_pend {t : TypeId} [ht : TCell P t] {x y : Operand} {h i : Nat} {e e2 : TypeId} {xss : List (List Int)} (hx : AV.ev env x = .optr h i) (hs : os[h]? = some (.ob (pendOb e e2 xss i))) (hi : i < xss.length) (hy : AV.ev env y = .orow h i) :
    LOp P ⟨d, .store t x y, ty, pos, af, g⟩ env os .any env (os.set h (.sls e e2 xss)) := by
  intro base w gs tm hr
  have hxv := hr.ev x
  have hyv := hr.ev y
  rw [hx] at hxv
  rw [hy] at hyv
  generalize hv : Act.eval ⟨tm, []⟩ x = v at hxv
  generalize hu : Act.eval ⟨tm, []⟩ y = u at hyv
  cases hxv with
  | @optr _ _ gh hg =>
  cases hyv with
  | @orow _ _ gh2 _ hg2 hrow =>
    have egg : gh2 = gh := by rw [hg] at hg2; exact (Option.some.inj hg2).symm
    subst egg
    obtain ⟨cs, bs, mb, a1, a2, a3, a4, a5, a6, a7, a8, a9⟩ := hr.ho _ _ _ hg hs
    obtain ⟨r1, r2, r3⟩ := a6 i u hrow
    obtain ⟨ua, uc, eu⟩ := ownsRow_slice r1
    have hic : i < cs.length := by omega
    obtain ⟨b, cap, e1, e2', e3', e4⟩ := own_slice a1 (i := i) hic
    have emb : mb = [gh2.b] ∧ gh2.v.ownBlock = some gh2.b := by
      rcases a7 with ⟨c1, _⟩ | ⟨c1, c2⟩
      · rw [c1] at e2'; cases e2'
      · exact ⟨c2, c1⟩
    have eb : gh2.b = b := by rw [emb.2] at e2'; exact Option.some.inj e2'
    have hcell : w.cell? ⟨gh2.b, i, none⟩ = some cs[i] := by rw [eb, e3']; simp [hic]
    have a1' := a1
    rw [e1] at a1'
    have hst := a1'.stored i u
    have hgb : gh2.b ∈ gh2.bl := by rw [a8, emb.1]; simp
    have hap : ∀ c, c ≠ gh2.b → (w.setCell ⟨b, i, none⟩ u).heap[c]? = w.heap[c]? := fun c hc => heap_setCell_other w ⟨b, i, none⟩ c u (fun e' => hc (by rw [eb]; exact e'))
    have hother : ∀ c, c < w.heap.size → c ∉ gh2.bl → (w.setCell ⟨b, i, none⟩ u).heap[c]? = w.heap[c]? := fun c _ hcb => hap c fun e => hcb (e ▸ hgb)
    have erows : cs.set i u = gh2.rows := by
      apply List.ext_getElem?
      intro j
      rw [List.getElem?_set]
      by_cases ej : i = j
      · subst ej; rw [if_pos rfl, if_pos hic, hrow]
      · rw [if_neg ej]; exact (a5 j (fun e => ej e.symm)).symm
    refine ⟨undef, w.setCell ⟨b, i, none⟩ u, gs, .inr ⟨?_, rfl⟩, hr.upd hg hs trivial _ trivial hother hst.2.size fun kp => ?_, .any _, ?_⟩
    · have := run_store_cell (P := P) (t := t) (a := ⟨gh2.b, i, none⟩) hcell (by rw [eb]; exact e4) (v := u) (by rw [eu]; rfl) (by rw [eu]; rfl)
      rw [eb] at this hv
      simp only [execOp, hv, hu, Sem.run_bind, this, Result.andThen_ok, Sem.run_pure]
    · refine ⟨gh2.rows, bs, mb, ?_, a4, a3, rfl, fun j z hz => ?_, a7, a8, a9⟩
      · rw [← erows, List.length_set, e1]; exact hst.1
      · obtain ⟨t1, t2, t3⟩ := a6 j z hz
        have hjl := (List.getElem?_eq_some_iff.1 hz).1
        refine ⟨ownsRow_of_block t1 fun c hc => hap c fun ec => ?_, t2, t3⟩
        have hm := mem_row (bs := bs) (by omega) t3 hc
        rw [a8] at a9
        exact (List.nodup_append.1 a9).2.2 gh2.b (by rw [emb.1]; simp) c hm ec.symm
    · have hbb : base ≤ b := by rw [← eb]; exact (hr.hn _ _ _ hg hs (by simp) gh2.b hgb).1
      exact (Below.refl _ _).setCell (p := ⟨b, i, none⟩) hbb _
end

section
variable {P : Program} {env : Env} {os : List AO} {d : Option Tmp} {ty : TypeId} {pos : String} {af : Array Edge} {g : Option (Nat × Bool)} {wl : Bool}
theorem q_idx_pend {t e0 : TypeId} [ht : TSlice P t e0] [he : TCell P e0] {x y : Operand} {h k : Nat} {e e2 : TypeId} {xss : List (List Int)} {i : Int} (hx : AV.ev env x = .own h) (hs : os[h]? = some (.ob (pendOb e e2 xss k))) (hy : AV.ev env y = .i i) (h0 : 0 ≤ i) (h1 : i < xss.length) :
    QOp P wl ⟨d, .indexAddr t x y, ty, pos, af, g⟩ env os (.optr h i.toNat) :=
  .of_run fun _ w gs tm hr => by
    have hh := hr.ev x
    rw [hx] at hh
    generalize hv : Act.eval ⟨tm, []⟩ x = v at hh
    cases hh with
    | @own _ gh hg =>
      refine ⟨_, .optr hg, fun w' _ => ?_⟩
      obtain ⟨cap, e1⟩ : ∃ cap, gh.v = .slice (some ⟨gh.b, 0, none⟩) xss.length cap := by
        obtain ⟨cs, bs, mb, a1, a2, a3, a4, a5, a6, a7, _⟩ := hr.ho _ _ _ hg hs
        obtain ⟨b, cap, e1, e2, _⟩ := own_slice a1 (i := i.toNat) (by omega)
        have : gh.b = b := by
          rcases a7 with ⟨h1, _⟩ | ⟨h1, _⟩
          · rw [h1] at e2; cases e2
          · rw [h1] at e2; cases e2; rfl
        rw [this, ← a2]; exact ⟨cap, e1⟩
      obtain ⟨ie, hi, hs1⟩ := he.info
      have hrun := run_idx ht.und hi hs1 ⟨gh.b, 0, none⟩ xss.length cap i h0 h1 w'
      simp only [execOp, hv, e1, hr.evv hy, Sem.run_bind, hrun, add_none, Nat.zero_add, Result.andThen_ok, Sem.run_pure]
end
section
variable {P : Program} {env : Env} {os : List AO} {d : Tmp} {ty : TypeId} {pos : String} {af : Array Edge} {g : Option (Nat × Bool)} {l rest : List Oper} {K : APost} {q : Md}
theorem w_apporow {t2 e2' : TypeId} {bytes : Nat} [TSlice P t2 e2'] [TElem P e2' (.int .i64 0) bytes] {x y : Operand} {h i k : Nat} {e e2 e3 : TypeId} {xss : List (List Int)} {ys : List Int} (hx : evo env x = some (.orow h i)) (hs : os[h]? = some (.sls e e2 xss)) (he2 : e2 = e2')
    (hy : evo env y = some (.own k)) (hk : os[k]? = some (.sli e3 ys)) (hhk : (h == k) = false) (hi : i < xss.length) (hp : 0 < ys.length) (hb : ((xss.getD i []).length + ys.length) * bytes ≤ 140737488355328)
    (h' : AOps P .seq l rest K (Env.up (env.mp (AV.noRow h)) d (.orow h i)) (((os.map (AO.via (AV.noRow h) h)).set h (.ob (pendOb e e2 (xss.set i (xss.getD i [] ++ ys)) i))).set k .dead)) :
    AOps P .seq l (⟨some d, .call { callee := .builtin .append, args := #[x, y], argTypes := #[t2, t2] }, ty, pos, af, none⟩ :: rest) K env os := AOps.lo (l_append_orow (ev_of hx) hs hi he2 (ev_of hy) hk hhk hp hb) h'
theorem w_idxpend {t e0 : TypeId} [TSlice P t e0] [TCell P e0] {x y : Operand} {h k : Nat} {e e2 : TypeId} {xss : List (List Int)} {i : Int} (hw : wantedA l env ⟨some d, .indexAddr t x y, ty, pos, af, g⟩ = some true) (hx : evo env x = some (.own h)) (hs : os[h]? = some (.ob (pendOb e e2 xss k))) (hy : evo env y = some (.i i)) (h0 : 0 ≤ i) (h1 : i < xss.length)
    (h' : AOps P q l rest K (env.up d (.optr h i.toNat)) os) : AOps P q l (⟨some d, .indexAddr t x y, ty, pos, af, g⟩ :: rest) K env os := AOps.qo hw (q_idx_pend (ev_of hx) hs (ev_of hy) h0 h1) h'
theorem w_stpend {t : TypeId} [TCell P t] {x y : Operand} {h i j : Nat} {e e2 : TypeId} {xss : List (List Int)} (hx : evo env x = some (.optr h j)) (hs : os[h]? = some (.ob (pendOb e e2 xss i))) (hy : evo env y = some (.orow h i)) (hj : j = i) (hi : i < xss.length)
    (h' : AOps P .seq l rest K env (os.set h (.sls e e2 xss))) : AOps P .seq l (⟨none, .store t x y, ty, pos, af, none⟩ :: rest) K env os := AOps.so (l_store_pend (ev_of (by rw [← hj]; exact hx)) hs hi (ev_of hy)) h'
end
end Go.Proofs.Ytbalbiliejjnoaa
/-
  The neighbours of all vertices. Condition: edges of a forest of at most 40 vertices.
-/
namespace Go.Proofs.Ytbalbiliejjnoaa
open Go Go.RowKit
attribute [local irreducible] AWp AOps ResIs Ret1 QOp LOp COp AFnV AFn Imms LeE LeO
set_option maxHeartbeats 1000000
set_option linter.unusedSimpArgs false
set_option linter.unusedVariables false

/-- The neighbours of all vertices, as the edges A tell them. -/
def nbL (n : Nat) (A : List (List Int)) : List (List Int) := (List.range n).map fun (v : Nat) => nearE A (v : Nat)
theorem nbL_len (n : Nat) (A : List (List Int)) : (nbL n A).length = n := by simp [nbL]
theorem nbL_get {n : Nat} {A : List (List Int)} {v : Nat} (h : v < n) : (nbL n A).getD v [] = nearE A (v : Nat) := by
  unfold nbL; rw [List.getD_eq_getElem?_getD, List.getElem?_map, List.getElem?_range h]; rfl
theorem nearE_snoc (A : List (List Int)) (e : List Int) (v : Int) : nearE (A ++ [e]) v = nearE A v ++ ((if geti e 0 = v then [geti e 1] else []) ++ (if geti e 1 = v then [geti e 0] else [])) := by
  unfold nearE; rw [List.flatMap_append]; simp
theorem nearE_len (A : List (List Int)) (v : Int) : (nearE A v).length ≤ 2 * A.length := by
  induction A with
  | nil => simp [nearE]
  | cons e A ih =>
    have : nearE (e :: A) v = ((if geti e 0 = v then [geti e 1] else []) ++ (if geti e 1 = v then [geti e 0] else [])) ++ nearE A v := by simp [nearE]
    rw [this, List.length_append, List.length_append, List.length_cons]
    split <;> split <;> simp <;> omega
theorem nb_step {n : Nat} {A : List (List Int)} {e : List Int} (he : EIn n e) {R1 : List (List Int)} (h1 : R1 = (nbL n A).set (geti e 0).toNat ((nbL n A).getD (geti e 0).toNat [] ++ [geti e 1])) :
    R1.set (geti e 1).toNat (R1.getD (geti e 1).toNat [] ++ [geti e 0]) = nbL n (A ++ [e]) := by
  obtain ⟨a1, a2, a3, a4⟩ := he
  have l0 := nbL_len n A
  have l1 : R1.length = n := by rw [h1, List.length_set]; exact l0
  apply List.ext_getElem?
  intro v
  by_cases hv : v < n
  · have g0 : (nbL n (A ++ [e]))[v]? = some (nearE (A ++ [e]) (v : Nat)) := by
      unfold nbL; rw [List.getElem?_map, List.getElem?_range hv]; rfl
    have g1 : ∀ u : Nat, u < n → R1.getD u [] = if u = (geti e 0).toNat then nearE A (u : Nat) ++ [geti e 1] else nearE A (u : Nat) := by
      intro u hu
      rw [h1, getD_set_if _ _ _ _ (by omega)]
      split
      · subst_vars; rw [nbL_get (by omega)]
      · exact nbL_get hu
    have g2 : (R1.set (geti e 1).toNat (R1.getD (geti e 1).toNat [] ++ [geti e 0]))[v]? = some (if v = (geti e 1).toNat then R1.getD (geti e 1).toNat [] ++ [geti e 0] else R1.getD v []) := by
      rw [List.getElem?_set]
      by_cases ev : (geti e 1).toNat = v
      · subst ev; rw [if_pos rfl, if_pos (by omega), if_pos rfl]
      · rw [if_neg ev, if_neg (fun h => ev h.symm), List.getD_eq_getElem?_getD, List.getElem?_eq_getElem (by omega)]; rfl
    rw [g0, g2, nearE_snoc]
    congr 1
    rw [g1 _ (by omega), g1 _ hv]
    by_cases e1 : v = (geti e 1).toNat
    · subst e1
      rw [if_pos rfl, if_neg (by omega), if_neg (by omega), if_pos (by omega)]; rfl
    · rw [if_neg e1]
      by_cases e0 : v = (geti e 0).toNat
      · subst e0
        rw [if_pos rfl, if_pos (by omega), if_neg (by omega)]; simp
      · rw [if_neg e0, if_neg (by omega), if_neg (by omega)]; simp
  · rw [List.getElem?_eq_none (by rw [List.length_set]; omega), List.getElem?_eq_none (by rw [nbL_len]; omega)]

/-- A forest of at most 40 vertices. -/
structure GrF (W : List Int) (E : List (List Int)) : Prop where
  n : 1 ≤ W.length ∧ W.length ≤ 40
  w : ∀ v : Int, -1000 ≤ geti W v ∧ geti W v ≤ 1000
  fo : FoE W.length E
  e : E.length ≤ 40
theorem GrF.at {W : List Int} {E : List (List Int)} (h : GrF W E) (k : Nat) (hk : k < E.length) : EIn W.length (gets E (k : Nat)) := h.fo.row _ (gets_mem (by omega) (by omega))
/-- All neighbours. -/
def nbs (W : List Int) (E : List (List Int)) : List (List Int) := (List.range W.length).map fun (v : Nat) => nearL E (v : Nat)
theorem nbs_eq {W : List Int} {E : List (List Int)} (h : GrF W E) : nbL W.length E = nbs W E := by
  unfold nbL nbs
  refine List.map_congr_left fun v _ => nearE_eq h.fo.row h.fo.srt _
theorem nbs_get {W : List Int} {E : List (List Int)} {v : Nat} (h : v < W.length) : (nbs W E).getD v [] = nearL E (v : Nat) := by
  unfold nbs; rw [List.getD_eq_getElem?_getD, List.getElem?_map, List.getElem?_range h]; rfl
theorem near_len {W : List Int} {E : List (List Int)} (h : GrF W E) (v : Int) : (nearL E v).length ≤ 40 := by
  have := nd_len (n := W.length) (h.fo.fst.nd v) (fun x hx => (h.fo.fst.bnd v x hx).1)
  have := h.n; omega

set_option maxHeartbeats 8000000 in
theorem neighboursOf_c (W : List Int) (E : List (List Int)) (h : GrF W E) : AFn Try.prog 50 [.agg [.ints W, .intss E]] (IsIntss 22 2 (nbs W E)) := by
  have hn := h.n
  have hE := h.e
  (refine AFn.start Try.func50 Try.ntmps50 rfl (by kernel_rfl) fun hk => ?_; simp only [Env.start, enumF, List.length_cons, List.length_nil, Nat.reduceAdd, Nat.reduceSub, List.cons_append, List.nil_append])
  repeat' (first
  | (apply AOps.nil; try simp only [List.nil_append, List.cons_append, List.set_cons_zero, List.set_cons_succ, List.length_cons, List.length_nil, Nat.reduceAdd, AV.sh, AV.sh1, AV.sh0, AO.sh, List.map_cons, List.map_nil, Nat.zero_add, Nat.add_zero, setAll])
  | ((apply AOps.splitP; exact rfl; exact rfl) <;> intro h)
  | ((apply AOps.splitN; exact rfl; exact rfl) <;> intro h)
  | (apply w_move; exact rfl; exact rfl)
  | (apply w_assign; exact rfl; exact rfl)
  | apply AWp.seq
  | apply AWp.region
  | ((apply AWp.condP; exact rfl) <;> intro h)
  | ((apply AWp.condN; exact rfl) <;> intro h)
  | (apply AWp.condT; exact rfl)
  | (apply AWp.condF; exact rfl)
  | ((apply AWp.condB; exact rfl) <;> intro h)
  | apply AWp.block
  | apply AWp.ret
  | apply AWp.exit
  | apply AWp.skip
  | (apply AWp.regionQ; kernel_rfl; kernel_rfl)
  | (apply if_pos'; exact rfl)
  | (apply if_neg'; decide)
  | (apply w_skip; exact rfl)
  | (apply w_pickT; exact rfl; exact rfl; exact rfl)
  | (apply w_pickF; exact rfl; exact rfl; exact rfl)
  | (apply w_len; exact rfl; exact rfl; first | exact .ints _ | exact .intss _ | exact .sli rfl | exact .sls rfl | exact .slr rfl | exact .orow rfl | exact .nil)
  | omega
  | ((first | apply w_lss | apply w_leq | apply w_gtr | apply w_geq | apply w_eql | apply w_neq | apply w_add | apply w_sub | apply w_mul | apply w_idx | apply w_ld | apply w_fld | apply w_fa | apply w_extv | apply w_min | apply w_max | apply w_slhi | apply w_sllo | apply w_bs2); iterate 3 exact rfl)
  | ((first | apply w_eqlb | apply w_neqb | apply w_idxs | apply w_lds | apply w_ext); iterate 3 exact rfl)
  | (apply w_rem; exact rfl; exact rfl; exact rfl; (focus (omega; done)); (focus (omega; done)))
  | (apply w_quo; exact rfl; exact rfl; exact rfl; (focus (omega; done)); (focus (omega; done)))
  | (apply w_remT; exact rfl; exact rfl; exact rfl)
  | (apply w_quoT; exact rfl; exact rfl; exact rfl)
  | ((first | apply w_not | apply w_neg | apply w_conv | apply w_build0 | apply w_bs1 | apply w_boxa); iterate 2 exact rfl)
  | (apply w_idxo; exact rfl; exact rfl; (first | exact .sli rfl | exact .sls rfl | exact .slr rfl); exact rfl)
  | ((first | apply w_idxr | apply w_ldr); iterate 4 exact rfl)
  | (apply w_ldo; iterate 4 exact rfl)
  | (apply w_ldls; iterate 4 exact rfl)
  | (apply w_ldrp; iterate 4 exact rfl)
  | (apply w_ldb; iterate 5 exact rfl)
  | (apply w_ldst; iterate 5 exact rfl)
  | ((first | apply w_sllh | apply w_stbi); iterate 4 exact rfl)
  | ((first | apply w_oslo | apply w_oshi | apply w_stbii); iterate 4 exact rfl)
  | (apply w_build1; exact rfl; exact rfl; (first | exact one_val rfl rfl | exact one_ints | exact one_intss | exact one_own rfl True.intro))
  | (apply w_build2; exact rfl; exact rfl; exact rfl; (first | exact one_val rfl rfl | exact one_ints | exact one_intss | exact one_own rfl True.intro); (first | exact one_val rfl rfl | exact one_ints | exact one_intss | exact one_own rfl True.intro))
  | (apply w_bs0; iterate 1 exact rfl)
  | (apply w_appn; exact rfl; exact rfl; (first | exact .ints _ | exact .sli rfl | exact .orow rfl | exact .nil | exact .osub rfl (by simp; omega)); exact rfl)
  | (apply w_alst; iterate 2 exact rfl)
  | (apply w_alone; iterate 3 exact rfl)
  | (apply w_mkr; exact rfl; exact rfl; rotate_left 3; exact rfl; rotate_left 1)
  | (apply w_sti; exact rfl; exact rfl; rotate_left 1; exact rfl; rotate_left 2)
  | (apply w_stst; iterate 5 exact rfl)
  | (apply w_stbv; iterate 6 exact rfl)
  | (apply w_stbo; exact rfl; exact rfl; exact rfl; exact rfl; exact rfl; exact True.intro)
  | ((apply AOps.splitB; exact rfl; exact rfl) <;> intro h)
  | apply AllOf.nil
  | (apply AllOf.cons; exact rfl)
  | (apply AAny.take; exact rfl; exact rfl; kernel_rfl; kernel_rfl)
  | (apply AAny.all; exact rfl)
  | (apply AAny.done; exact rfl)
  | (apply inI_of <;> omega)
  | omega
  | (simp <;> omega))
  have e0 : List.replicate (W.length : Int).toNat ([] : List Int) = nbL W.length (E.take 0) := by
    apply List.ext_getElem (by simp [nbL])
    intro i h1 h2
    simp [nbL, nearE]
  rw [e0]
  refine AWp.loop (ι := Nat) (fun k => ⟨62, [(3, .own 1), (13, .intss E), (14, .i E.length), (15, .i k)]⟩) (fun k => [.bx 29 [.ints W, .intss E], .sls 22 2 (nbL W.length (E.take k))]) (fun k => k ≤ E.length) (fun k => E.length - k) 0 (by omega) ⟨lee rfl (by (repeat (first | exact le_nil | refine le_eq rfl rfl ?_ | refine le_eq rfl (congrArg AV.i (by omega)) ?_))), by (repeat (first | exact lo_nil | refine lo_dead ?_ | refine lo_eq rfl ?_)), rfl, rfl⟩ ?_
  rintro k k0
  have hl := nbL_len W.length (E.take k)
  by_cases hk : k < E.length
  · obtain ⟨a1, a2, a3, a4⟩ := h.at k hk
    have hst := fun R1 => nb_step (A := E.take k) (R1 := R1) (h.at k hk)
    have et : E.take k ++ [gets E (k : Nat)] = E.take (k + 1) := by rw [List.take_succ_eq_append_getElem hk]; simp [gets, hk]
    rw [et] at hst
    have q0 : ((nbL W.length (E.take k)).getD (geti (gets E (k : Nat)) 0).toNat []).length ≤ 80 := by
      rw [nbL_get (by omega)]
      have := nearE_len (E.take k) (((geti (gets E (k : Nat)) 0).toNat : Nat) : Int)
      rw [List.length_take] at this; omega
    have q1 : ((nbL W.length (E.take k)).getD (geti (gets E (k : Nat)) 1).toNat []).length ≤ 80 := by
      rw [nbL_get (by omega)]
      have := nearE_len (E.take k) (((geti (gets E (k : Nat)) 1).toNat : Nat) : Int)
      rw [List.length_take] at this; omega
    generalize nbL W.length (E.take k) = R at *
    repeat' (first
  | (apply AOps.nil; try simp only [List.nil_append, List.cons_append, List.set_cons_zero, List.set_cons_succ, List.length_cons, List.length_nil, Nat.reduceAdd, AV.sh, AV.sh1, AV.sh0, AO.sh, List.map_cons, List.map_nil, Nat.zero_add, Nat.add_zero, setAll])
  | ((apply AOps.splitP; exact rfl; exact rfl) <;> intro h)
  | ((apply AOps.splitN; exact rfl; exact rfl) <;> intro h)
  | (apply w_move; exact rfl; exact rfl)
  | (apply w_assign; exact rfl; exact rfl)
  | apply AWp.seq
  | apply AWp.region
  | ((apply AWp.condP; exact rfl) <;> intro h)
  | ((apply AWp.condN; exact rfl) <;> intro h)
  | (apply AWp.condT; exact rfl)
  | (apply AWp.condF; exact rfl)
  | ((apply AWp.condB; exact rfl) <;> intro h)
  | apply AWp.block
  | apply AWp.ret
  | apply AWp.exit
  | apply AWp.skip
  | (apply if_pos'; exact rfl)
  | (apply if_neg'; decide)
  | (apply w_skip; exact rfl)
  | (apply w_pickT; exact rfl; exact rfl; exact rfl)
  | (apply w_pickF; exact rfl; exact rfl; exact rfl)
  | (apply w_len; exact rfl; exact rfl; first | exact .ints _ | exact .intss _ | exact .sli rfl | exact .sls rfl | exact .slr rfl | exact .orow rfl | exact .nil)
  | omega
  | ((first | apply w_lss | apply w_leq | apply w_gtr | apply w_geq | apply w_eql | apply w_neq | apply w_add | apply w_sub | apply w_mul | apply w_idx | apply w_ld | apply w_fld | apply w_fa | apply w_extv | apply w_min | apply w_max | apply w_slhi | apply w_sllo | apply w_bs2); iterate 3 exact rfl)
  | ((first | apply w_eqlb | apply w_neqb | apply w_idxs | apply w_lds | apply w_ext); iterate 3 exact rfl)
  | (apply w_rem; exact rfl; exact rfl; exact rfl; (focus (omega; done)); (focus (omega; done)))
  | (apply w_quo; exact rfl; exact rfl; exact rfl; (focus (omega; done)); (focus (omega; done)))
  | (apply w_remT; exact rfl; exact rfl; exact rfl)
  | (apply w_quoT; exact rfl; exact rfl; exact rfl)
  | ((first | apply w_not | apply w_neg | apply w_conv | apply w_build0 | apply w_bs1 | apply w_boxa); iterate 2 exact rfl)
  | (apply w_idxo; exact rfl; exact rfl; (first | exact .sli rfl | exact .sls rfl | exact .slr rfl); exact rfl)
  | ((first | apply w_idxr | apply w_ldr); iterate 4 exact rfl)
  | (apply w_ldo; iterate 4 exact rfl)
  | (apply w_ldls; iterate 4 exact rfl)
  | (apply w_ldrp; iterate 4 exact rfl)
  | (apply w_ldb; iterate 5 exact rfl)
  | (apply w_ldst; iterate 5 exact rfl)
  | ((first | apply w_sllh | apply w_stbi); iterate 4 exact rfl)
  | ((first | apply w_oslo | apply w_oshi | apply w_stbii); iterate 4 exact rfl)
  | (apply w_build1; exact rfl; exact rfl; (first | exact one_val rfl rfl | exact one_ints | exact one_intss | exact one_own rfl True.intro))
  | (apply w_build2; exact rfl; exact rfl; exact rfl; (first | exact one_val rfl rfl | exact one_ints | exact one_intss | exact one_own rfl True.intro); (first | exact one_val rfl rfl | exact one_ints | exact one_intss | exact one_own rfl True.intro))
  | (apply w_bs0; iterate 1 exact rfl)
  | (apply w_appn; exact rfl; exact rfl; (first | exact .ints _ | exact .sli rfl | exact .orow rfl | exact .nil | exact .osub rfl (by simp; omega)); exact rfl)
  | (apply w_alst; iterate 2 exact rfl)
  | (apply w_alone; iterate 3 exact rfl)
  | (apply w_mkr; exact rfl; exact rfl; rotate_left 3; exact rfl; rotate_left 1)
  | (apply w_sti; exact rfl; exact rfl; rotate_left 1; exact rfl; rotate_left 2)
  | (apply w_stst; iterate 5 exact rfl)
  | (apply w_stbv; iterate 6 exact rfl)
  | (apply w_stbo; exact rfl; exact rfl; exact rfl; exact rfl; exact rfl; exact True.intro)
  | ((apply AOps.splitB; exact rfl; exact rfl) <;> intro h)
  | apply AllOf.nil
  | (apply AllOf.cons; exact rfl)
  | (apply AAny.take; exact rfl; exact rfl; kernel_rfl; kernel_rfl)
  | (apply AAny.all; exact rfl)
  | (apply AAny.done; exact rfl)
  | (apply inI_of <;> omega)
  | omega
  | (simp <;> omega))
    generalize gets E (k : Nat) = e at *
    obtain ⟨R1, eR1⟩ : ∃ R1, R1 = R.set (geti e 0).toNat (R.getD (geti e 0).toNat [] ++ [geti e 1]) := ⟨_, rfl⟩
    have hR1 := hst R1 eR1
    have l1 : R1.length = W.length := by rw [eR1, List.length_set]; exact hl
    have q2 : (R1.getD (geti e 1).toNat []).length ≤ 81 := by
      rw [eR1, getD_set_if _ _ _ _ (by omega)]
      split
      · rw [List.length_append, List.length_singleton]; omega
      · omega
    have b0 : ((R.getD (geti e 0).toNat []).length + [geti e 1].length) * 8 ≤ 140737488355328 := by rw [List.length_singleton]; omega
    have b1 : ((R1.getD (geti e 1).toNat []).length + [geti e 0].length) * 8 ≤ 140737488355328 := by rw [List.length_singleton]; omega
    refine AWp.regionG [] (by kernel_rfl) (envC := ⟨62, [(3, .own 1), (5, .ints e), (13, .intss E), (14, .i E.length), (15, .i k)]⟩) (osC := [.bx 29 [.ints W, .intss E], .sls 22 2 R1]) rfl rfl ?_ ?_
    · rw [eR1]
      repeat' (first
  | (apply AOps.nil; try simp only [List.nil_append, List.cons_append, List.set_cons_zero, List.set_cons_succ, List.length_cons, List.length_nil, Nat.reduceAdd, AV.sh, AV.sh1, AV.sh0, AO.sh, List.map_cons, List.map_nil, Nat.zero_add, Nat.add_zero, setAll])
  | ((apply AOps.splitP; exact rfl; exact rfl) <;> intro h)
  | ((apply AOps.splitN; exact rfl; exact rfl) <;> intro h)
  | (apply w_move; exact rfl; exact rfl)
  | (apply w_assign; exact rfl; exact rfl)
  | apply AWp.seq
  | apply AWp.region
  | ((apply AWp.condP; exact rfl) <;> intro h)
  | ((apply AWp.condN; exact rfl) <;> intro h)
  | (apply AWp.condT; exact rfl)
  | (apply AWp.condF; exact rfl)
  | ((apply AWp.condB; exact rfl) <;> intro h)
  | apply AWp.block
  | apply AWp.ret
  | apply AWp.exit
  | apply AWp.skip
  | (apply AWp.regionQ; kernel_rfl; kernel_rfl)
  | (apply if_pos'; exact rfl)
  | (apply if_neg'; decide)
  | (apply w_skip; exact rfl)
  | (apply w_pickT; exact rfl; exact rfl; exact rfl)
  | (apply w_pickF; exact rfl; exact rfl; exact rfl)
  | (apply w_len; exact rfl; exact rfl; first | exact .ints _ | exact .intss _ | exact .sli rfl | exact .sls rfl | exact .slr rfl | exact .orow rfl | exact .nil)
  | (apply w_apporow; exact rfl; exact rfl; exact rfl; exact rfl; exact rfl; exact rfl; rotate_left 3; simp only [Env.mp, List.map_cons, List.map_nil, List.set_cons_zero, List.set_cons_succ, AV.kill, AV.kill1, AO.kill, AV.noRow, AV.noRow1, AO.via, reduceIte, Nat.reduceEqDiff, Nat.reduceLT, Env.up, Nat.zero_ne_one, Nat.one_ne_zero, Nat.reduceAdd, List.cons_append, List.nil_append]; rotate_left 3)
  | (apply w_idxpend; iterate 4 exact rfl)
  | (apply w_stpend; exact rfl; exact rfl; exact rfl; exact rfl; rotate_left 1; simp only [Env.mp, List.map_cons, List.map_nil, List.set_cons_zero, List.set_cons_succ, AV.kill, AV.kill1, AO.kill, AV.noRow, AV.noRow1, AO.via, reduceIte, Nat.reduceEqDiff, Nat.reduceLT, Env.up, Nat.zero_ne_one, Nat.one_ne_zero, Nat.reduceAdd, List.cons_append, List.nil_append]; rotate_left 1)
  | apply AllOfG.nil
  | (apply AllOfG.consQ; exact rfl; exact rfl)
  | (apply AllOfG.consS; exact rfl; exact rfl)
  | (apply AAnyG.takeW; exact rfl; exact rfl; kernel_rfl; kernel_rfl)
  | (apply AAnyG.takeL; exact rfl; exact rfl; kernel_rfl)
  | (apply AAnyG.all; exact rfl)
  | (apply AAnyG.done; exact rfl)
  | omega
  | assumption
  | ((first | apply w_lss | apply w_leq | apply w_gtr | apply w_geq | apply w_eql | apply w_neq | apply w_add | apply w_sub | apply w_mul | apply w_idx | apply w_ld | apply w_fld | apply w_fa | apply w_extv | apply w_min | apply w_max | apply w_slhi | apply w_sllo | apply w_bs2); iterate 3 exact rfl)
  | ((first | apply w_eqlb | apply w_neqb | apply w_idxs | apply w_lds | apply w_ext); iterate 3 exact rfl)
  | (apply w_rem; exact rfl; exact rfl; exact rfl; (focus (omega; done)); (focus (omega; done)))
  | (apply w_quo; exact rfl; exact rfl; exact rfl; (focus (omega; done)); (focus (omega; done)))
  | (apply w_remT; exact rfl; exact rfl; exact rfl)
  | (apply w_quoT; exact rfl; exact rfl; exact rfl)
  | ((first | apply w_not | apply w_neg | apply w_conv | apply w_build0 | apply w_bs1 | apply w_boxa); iterate 2 exact rfl)
  | (apply w_idxo; exact rfl; exact rfl; (first | exact .sli rfl | exact .sls rfl | exact .slr rfl); exact rfl)
  | ((first | apply w_idxr | apply w_ldr); iterate 4 exact rfl)
  | (apply w_ldo; iterate 4 exact rfl)
  | (apply w_ldls; iterate 4 exact rfl)
  | (apply w_ldrp; iterate 4 exact rfl)
  | (apply w_ldb; iterate 5 exact rfl)
  | (apply w_ldst; iterate 5 exact rfl)
  | ((first | apply w_sllh | apply w_stbi); iterate 4 exact rfl)
  | ((first | apply w_oslo | apply w_oshi | apply w_stbii); iterate 4 exact rfl)
  | (apply w_build1; exact rfl; exact rfl; (first | exact one_val rfl rfl | exact one_ints | exact one_intss | exact one_own rfl True.intro))
  | (apply w_build2; exact rfl; exact rfl; exact rfl; (first | exact one_val rfl rfl | exact one_ints | exact one_intss | exact one_own rfl True.intro); (first | exact one_val rfl rfl | exact one_ints | exact one_intss | exact one_own rfl True.intro))
  | (apply w_bs0; iterate 1 exact rfl)
  | (apply w_appn; exact rfl; exact rfl; (first | exact .ints _ | exact .sli rfl | exact .orow rfl | exact .nil | exact .osub rfl (by simp; omega)); exact rfl)
  | (apply w_alst; iterate 2 exact rfl)
  | (apply w_alone; iterate 3 exact rfl)
  | (apply w_mkr; exact rfl; exact rfl; rotate_left 3; exact rfl; rotate_left 1)
  | (apply w_sti; exact rfl; exact rfl; rotate_left 1; exact rfl; rotate_left 2)
  | (apply w_stst; iterate 5 exact rfl)
  | (apply w_stbv; iterate 6 exact rfl)
  | (apply w_stbo; exact rfl; exact rfl; exact rfl; exact rfl; exact rfl; exact True.intro)
  | ((apply AOps.splitB; exact rfl; exact rfl) <;> intro h)
  | apply AllOf.nil
  | (apply AllOf.cons; exact rfl)
  | (apply AAny.take; exact rfl; exact rfl; kernel_rfl; kernel_rfl)
  | (apply AAny.all; exact rfl)
  | (apply AAny.done; exact rfl)
  | (apply inI_of <;> omega)
  | omega
  | (simp <;> omega))
      all_goals (first | (apply Or.inl; refine ⟨lee rfl ?_, ?_, rfl, rfl⟩; (focus ((repeat (first | exact le_nil | refine le_eq rfl rfl ?_ | (refine le_eq rfl (congrArg AV.i ?_) ?_; (focus (omega; done))))); done)); (focus ((repeat (first | exact lo_nil | refine lo_dead ?_ | refine lo_eq rfl ?_)); done))))
    clear eR1 hst
    repeat' (first
  | (apply AOps.nil; try simp only [List.nil_append, List.cons_append, List.set_cons_zero, List.set_cons_succ, List.length_cons, List.length_nil, Nat.reduceAdd, AV.sh, AV.sh1, AV.sh0, AO.sh, List.map_cons, List.map_nil, Nat.zero_add, Nat.add_zero, setAll])
  | ((apply AOps.splitP; exact rfl; exact rfl) <;> intro h)
  | ((apply AOps.splitN; exact rfl; exact rfl) <;> intro h)
  | (apply w_move; exact rfl; exact rfl)
  | (apply w_assign; exact rfl; exact rfl)
  | apply AWp.seq
  | apply AWp.region
  | ((apply AWp.condP; exact rfl) <;> intro h)
  | ((apply AWp.condN; exact rfl) <;> intro h)
  | (apply AWp.condT; exact rfl)
  | (apply AWp.condF; exact rfl)
  | ((apply AWp.condB; exact rfl) <;> intro h)
  | apply AWp.block
  | apply AWp.ret
  | apply AWp.exit
  | apply AWp.skip
  | (apply if_pos'; exact rfl)
  | (apply if_neg'; decide)
  | (apply w_skip; exact rfl)
  | (apply w_pickT; exact rfl; exact rfl; exact rfl)
  | (apply w_pickF; exact rfl; exact rfl; exact rfl)
  | (apply w_len; exact rfl; exact rfl; first | exact .ints _ | exact .intss _ | exact .sli rfl | exact .sls rfl | exact .slr rfl | exact .orow rfl | exact .nil)
  | omega
  | ((first | apply w_lss | apply w_leq | apply w_gtr | apply w_geq | apply w_eql | apply w_neq | apply w_add | apply w_sub | apply w_mul | apply w_idx | apply w_ld | apply w_fld | apply w_fa | apply w_extv | apply w_min | apply w_max | apply w_slhi | apply w_sllo | apply w_bs2); iterate 3 exact rfl)
  | ((first | apply w_eqlb | apply w_neqb | apply w_idxs | apply w_lds | apply w_ext); iterate 3 exact rfl)
  | (apply w_rem; exact rfl; exact rfl; exact rfl; (focus (omega; done)); (focus (omega; done)))
  | (apply w_quo; exact rfl; exact rfl; exact rfl; (focus (omega; done)); (focus (omega; done)))
  | (apply w_remT; exact rfl; exact rfl; exact rfl)
  | (apply w_quoT; exact rfl; exact rfl; exact rfl)
  | ((first | apply w_not | apply w_neg | apply w_conv | apply w_build0 | apply w_bs1 | apply w_boxa); iterate 2 exact rfl)
  | (apply w_idxo; exact rfl; exact rfl; (first | exact .sli rfl | exact .sls rfl | exact .slr rfl); exact rfl)
  | ((first | apply w_idxr | apply w_ldr); iterate 4 exact rfl)
  | (apply w_ldo; iterate 4 exact rfl)
  | (apply w_ldls; iterate 4 exact rfl)
  | (apply w_ldrp; iterate 4 exact rfl)
  | (apply w_ldb; iterate 5 exact rfl)
  | (apply w_ldst; iterate 5 exact rfl)
  | ((first | apply w_sllh | apply w_stbi); iterate 4 exact rfl)
  | ((first | apply w_oslo | apply w_oshi | apply w_stbii); iterate 4 exact rfl)
  | (apply w_build1; exact rfl; exact rfl; (first | exact one_val rfl rfl | exact one_ints | exact one_intss | exact one_own rfl True.intro))
  | (apply w_build2; exact rfl; exact rfl; exact rfl; (first | exact one_val rfl rfl | exact one_ints | exact one_intss | exact one_own rfl True.intro); (first | exact one_val rfl rfl | exact one_ints | exact one_intss | exact one_own rfl True.intro))
  | (apply w_bs0; iterate 1 exact rfl)
  | (apply w_appn; exact rfl; exact rfl; (first | exact .ints _ | exact .sli rfl | exact .orow rfl | exact .nil | exact .osub rfl (by simp; omega)); exact rfl)
  | (apply w_alst; iterate 2 exact rfl)
  | (apply w_alone; iterate 3 exact rfl)
  | (apply w_mkr; exact rfl; exact rfl; rotate_left 3; exact rfl; rotate_left 1)
  | (apply w_sti; exact rfl; exact rfl; rotate_left 1; exact rfl; rotate_left 2)
  | (apply w_stst; iterate 5 exact rfl)
  | (apply w_stbv; iterate 6 exact rfl)
  | (apply w_stbo; exact rfl; exact rfl; exact rfl; exact rfl; exact rfl; exact True.intro)
  | ((apply AOps.splitB; exact rfl; exact rfl) <;> intro h)
  | apply AllOf.nil
  | (apply AllOf.cons; exact rfl)
  | (apply AAny.take; exact rfl; exact rfl; kernel_rfl; kernel_rfl)
  | (apply AAny.all; exact rfl)
  | (apply AAny.done; exact rfl)
  | (apply inI_of <;> omega)
  | omega
  | (simp <;> omega))
    refine AWp.regionG [] (by kernel_rfl) (envC := ⟨62, [(3, .own 1), (13, .intss E), (14, .i E.length), (15, .i k)]⟩) (osC := [.bx 29 [.ints W, .intss E], .sls 22 2 (R1.set (geti e 1).toNat (R1.getD (geti e 1).toNat [] ++ [geti e 0]))]) rfl rfl ?_ ?_
    · repeat' (first
  | (apply AOps.nil; try simp only [List.nil_append, List.cons_append, List.set_cons_zero, List.set_cons_succ, List.length_cons, List.length_nil, Nat.reduceAdd, AV.sh, AV.sh1, AV.sh0, AO.sh, List.map_cons, List.map_nil, Nat.zero_add, Nat.add_zero, setAll])
  | ((apply AOps.splitP; exact rfl; exact rfl) <;> intro h)
  | ((apply AOps.splitN; exact rfl; exact rfl) <;> intro h)
  | (apply w_move; exact rfl; exact rfl)
  | (apply w_assign; exact rfl; exact rfl)
  | apply AWp.seq
  | apply AWp.region
  | ((apply AWp.condP; exact rfl) <;> intro h)
  | ((apply AWp.condN; exact rfl) <;> intro h)
  | (apply AWp.condT; exact rfl)
  | (apply AWp.condF; exact rfl)
  | ((apply AWp.condB; exact rfl) <;> intro h)
  | apply AWp.block
  | apply AWp.ret
  | apply AWp.exit
  | apply AWp.skip
  | (apply AWp.regionQ; kernel_rfl; kernel_rfl)
  | (apply if_pos'; exact rfl)
  | (apply if_neg'; decide)
  | (apply w_skip; exact rfl)
  | (apply w_pickT; exact rfl; exact rfl; exact rfl)
  | (apply w_pickF; exact rfl; exact rfl; exact rfl)
  | (apply w_len; exact rfl; exact rfl; first | exact .ints _ | exact .intss _ | exact .sli rfl | exact .sls rfl | exact .slr rfl | exact .orow rfl | exact .nil)
  | (apply w_apporow; exact rfl; exact rfl; exact rfl; exact rfl; exact rfl; exact rfl; rotate_left 3; simp only [Env.mp, List.map_cons, List.map_nil, List.set_cons_zero, List.set_cons_succ, AV.kill, AV.kill1, AO.kill, AV.noRow, AV.noRow1, AO.via, reduceIte, Nat.reduceEqDiff, Nat.reduceLT, Env.up, Nat.zero_ne_one, Nat.one_ne_zero, Nat.reduceAdd, List.cons_append, List.nil_append]; rotate_left 3)
  | (apply w_idxpend; iterate 4 exact rfl)
  | (apply w_stpend; exact rfl; exact rfl; exact rfl; exact rfl; rotate_left 1; simp only [Env.mp, List.map_cons, List.map_nil, List.set_cons_zero, List.set_cons_succ, AV.kill, AV.kill1, AO.kill, AV.noRow, AV.noRow1, AO.via, reduceIte, Nat.reduceEqDiff, Nat.reduceLT, Env.up, Nat.zero_ne_one, Nat.one_ne_zero, Nat.reduceAdd, List.cons_append, List.nil_append]; rotate_left 1)
  | apply AllOfG.nil
  | (apply AllOfG.consQ; exact rfl; exact rfl)
  | (apply AllOfG.consS; exact rfl; exact rfl)
  | (apply AAnyG.takeW; exact rfl; exact rfl; kernel_rfl; kernel_rfl)
  | (apply AAnyG.takeL; exact rfl; exact rfl; kernel_rfl)
  | (apply AAnyG.all; exact rfl)
  | (apply AAnyG.done; exact rfl)
  | omega
  | assumption
  | ((first | apply w_lss | apply w_leq | apply w_gtr | apply w_geq | apply w_eql | apply w_neq | apply w_add | apply w_sub | apply w_mul | apply w_idx | apply w_ld | apply w_fld | apply w_fa | apply w_extv | apply w_min | apply w_max | apply w_slhi | apply w_sllo | apply w_bs2); iterate 3 exact rfl)
  | ((first | apply w_eqlb | apply w_neqb | apply w_idxs | apply w_lds | apply w_ext); iterate 3 exact rfl)
  | (apply w_rem; exact rfl; exact rfl; exact rfl; (focus (omega; done)); (focus (omega; done)))
  | (apply w_quo; exact rfl; exact rfl; exact rfl; (focus (omega; done)); (focus (omega; done)))
  | (apply w_remT; exact rfl; exact rfl; exact rfl)
  | (apply w_quoT; exact rfl; exact rfl; exact rfl)
  | ((first | apply w_not | apply w_neg | apply w_conv | apply w_build0 | apply w_bs1 | apply w_boxa); iterate 2 exact rfl)
  | (apply w_idxo; exact rfl; exact rfl; (first | exact .sli rfl | exact .sls rfl | exact .slr rfl); exact rfl)
  | ((first | apply w_idxr | apply w_ldr); iterate 4 exact rfl)
  | (apply w_ldo; iterate 4 exact rfl)
  | (apply w_ldls; iterate 4 exact rfl)
  | (apply w_ldrp; iterate 4 exact rfl)
  | (apply w_ldb; iterate 5 exact rfl)
  | (apply w_ldst; iterate 5 exact rfl)
  | ((first | apply w_sllh | apply w_stbi); iterate 4 exact rfl)
  | ((first | apply w_oslo | apply w_oshi | apply w_stbii); iterate 4 exact rfl)
  | (apply w_build1; exact rfl; exact rfl; (first | exact one_val rfl rfl | exact one_ints | exact one_intss | exact one_own rfl True.intro))
  | (apply w_build2; exact rfl; exact rfl; exact rfl; (first | exact one_val rfl rfl | exact one_ints | exact one_intss | exact one_own rfl True.intro); (first | exact one_val rfl rfl | exact one_ints | exact one_intss | exact one_own rfl True.intro))
  | (apply w_bs0; iterate 1 exact rfl)
  | (apply w_appn; exact rfl; exact rfl; (first | exact .ints _ | exact .sli rfl | exact .orow rfl | exact .nil | exact .osub rfl (by simp; omega)); exact rfl)
  | (apply w_alst; iterate 2 exact rfl)
  | (apply w_alone; iterate 3 exact rfl)
  | (apply w_mkr; exact rfl; exact rfl; rotate_left 3; exact rfl; rotate_left 1)
  | (apply w_sti; exact rfl; exact rfl; rotate_left 1; exact rfl; rotate_left 2)
  | (apply w_stst; iterate 5 exact rfl)
  | (apply w_stbv; iterate 6 exact rfl)
  | (apply w_stbo; exact rfl; exact rfl; exact rfl; exact rfl; exact rfl; exact True.intro)
  | ((apply AOps.splitB; exact rfl; exact rfl) <;> intro h)
  | apply AllOf.nil
  | (apply AllOf.cons; exact rfl)
  | (apply AAny.take; exact rfl; exact rfl; kernel_rfl; kernel_rfl)
  | (apply AAny.all; exact rfl)
  | (apply AAny.done; exact rfl)
  | (apply inI_of <;> omega)
  | omega
  | (simp <;> omega))
      all_goals (first | (apply Or.inl; refine ⟨lee rfl ?_, ?_, rfl, rfl⟩; (focus ((repeat (first | exact le_nil | refine le_eq rfl rfl ?_ | (refine le_eq rfl (congrArg AV.i ?_) ?_; (focus (omega; done))))); done)); (focus ((repeat (first | exact lo_nil | refine lo_dead ?_ | refine lo_eq rfl ?_)); done))))
    repeat' (first
  | (apply AOps.nil; try simp only [List.nil_append, List.cons_append, List.set_cons_zero, List.set_cons_succ, List.length_cons, List.length_nil, Nat.reduceAdd, AV.sh, AV.sh1, AV.sh0, AO.sh, List.map_cons, List.map_nil, Nat.zero_add, Nat.add_zero, setAll])
  | ((apply AOps.splitP; exact rfl; exact rfl) <;> intro h)
  | ((apply AOps.splitN; exact rfl; exact rfl) <;> intro h)
  | (apply w_move; exact rfl; exact rfl)
  | (apply w_assign; exact rfl; exact rfl)
  | apply AWp.seq
  | apply AWp.region
  | ((apply AWp.condP; exact rfl) <;> intro h)
  | ((apply AWp.condN; exact rfl) <;> intro h)
  | (apply AWp.condT; exact rfl)
  | (apply AWp.condF; exact rfl)
  | ((apply AWp.condB; exact rfl) <;> intro h)
  | apply AWp.block
  | apply AWp.ret
  | apply AWp.exit
  | apply AWp.skip
  | (apply if_pos'; exact rfl)
  | (apply if_neg'; decide)
  | (apply w_skip; exact rfl)
  | (apply w_pickT; exact rfl; exact rfl; exact rfl)
  | (apply w_pickF; exact rfl; exact rfl; exact rfl)
  | (apply w_len; exact rfl; exact rfl; first | exact .ints _ | exact .intss _ | exact .sli rfl | exact .sls rfl | exact .slr rfl | exact .orow rfl | exact .nil)
  | omega
  | ((first | apply w_lss | apply w_leq | apply w_gtr | apply w_geq | apply w_eql | apply w_neq | apply w_add | apply w_sub | apply w_mul | apply w_idx | apply w_ld | apply w_fld | apply w_fa | apply w_extv | apply w_min | apply w_max | apply w_slhi | apply w_sllo | apply w_bs2); iterate 3 exact rfl)
  | ((first | apply w_eqlb | apply w_neqb | apply w_idxs | apply w_lds | apply w_ext); iterate 3 exact rfl)
  | (apply w_rem; exact rfl; exact rfl; exact rfl; (focus (omega; done)); (focus (omega; done)))
  | (apply w_quo; exact rfl; exact rfl; exact rfl; (focus (omega; done)); (focus (omega; done)))
  | (apply w_remT; exact rfl; exact rfl; exact rfl)
  | (apply w_quoT; exact rfl; exact rfl; exact rfl)
  | ((first | apply w_not | apply w_neg | apply w_conv | apply w_build0 | apply w_bs1 | apply w_boxa); iterate 2 exact rfl)
  | (apply w_idxo; exact rfl; exact rfl; (first | exact .sli rfl | exact .sls rfl | exact .slr rfl); exact rfl)
  | ((first | apply w_idxr | apply w_ldr); iterate 4 exact rfl)
  | (apply w_ldo; iterate 4 exact rfl)
  | (apply w_ldls; iterate 4 exact rfl)
  | (apply w_ldrp; iterate 4 exact rfl)
  | (apply w_ldb; iterate 5 exact rfl)
  | (apply w_ldst; iterate 5 exact rfl)
  | ((first | apply w_sllh | apply w_stbi); iterate 4 exact rfl)
  | ((first | apply w_oslo | apply w_oshi | apply w_stbii); iterate 4 exact rfl)
  | (apply w_build1; exact rfl; exact rfl; (first | exact one_val rfl rfl | exact one_ints | exact one_intss | exact one_own rfl True.intro))
  | (apply w_build2; exact rfl; exact rfl; exact rfl; (first | exact one_val rfl rfl | exact one_ints | exact one_intss | exact one_own rfl True.intro); (first | exact one_val rfl rfl | exact one_ints | exact one_intss | exact one_own rfl True.intro))
  | (apply w_bs0; iterate 1 exact rfl)
  | (apply w_appn; exact rfl; exact rfl; (first | exact .ints _ | exact .sli rfl | exact .orow rfl | exact .nil | exact .osub rfl (by simp; omega)); exact rfl)
  | (apply w_alst; iterate 2 exact rfl)
  | (apply w_alone; iterate 3 exact rfl)
  | (apply w_mkr; exact rfl; exact rfl; rotate_left 3; exact rfl; rotate_left 1)
  | (apply w_sti; exact rfl; exact rfl; rotate_left 1; exact rfl; rotate_left 2)
  | (apply w_stst; iterate 5 exact rfl)
  | (apply w_stbv; iterate 6 exact rfl)
  | (apply w_stbo; exact rfl; exact rfl; exact rfl; exact rfl; exact rfl; exact True.intro)
  | ((apply AOps.splitB; exact rfl; exact rfl) <;> intro h)
  | apply AllOf.nil
  | (apply AllOf.cons; exact rfl)
  | (apply AAny.take; exact rfl; exact rfl; kernel_rfl; kernel_rfl)
  | (apply AAny.all; exact rfl)
  | (apply AAny.done; exact rfl)
  | (apply inI_of <;> omega)
  | omega
  | (simp <;> omega))
    exact ⟨k + 1, by omega, by omega, ⟨lee rfl (by (repeat (first | exact le_nil | refine le_eq rfl rfl ?_ | refine le_eq rfl (congrArg AV.i (by omega)) ?_ | refine le_eq rfl (congrArg AV.i (hR1)) ?_))), by (repeat (first | exact lo_nil | refine lo_dead ?_ | refine lo_eq rfl ?_ | refine lo_eq (congrArg (AO.sli _) (hR1)) ?_ | refine lo_eq (congrArg (AO.sls _ _) (hR1)) ?_)), rfl, rfl⟩⟩
  · have ek : k = E.length := by omega
    subst ek
    rw [List.take_length, nbs_eq h]
    rw [List.take_length, nbs_eq h] at hl
    have hs : ∀ v : Nat, v < W.length → AFnU Try.prog 68 [.ints ((nbs W E).getD (v : Int).toNat [])] [] (fun v os => v = .tuple #[] ∧ os = []) := fun v hv => by
      rw [Int.toNat_natCast, nbs_get hv]
      exact sort_s _ (srt_of (h.fo.fst.srt _)) (by have := near_len h (v : Nat); omega)
    generalize nbs W E = R at *
    repeat' (first
  | (apply AOps.nil; try simp only [List.nil_append, List.cons_append, List.set_cons_zero, List.set_cons_succ, List.length_cons, List.length_nil, Nat.reduceAdd, AV.sh, AV.sh1, AV.sh0, AO.sh, List.map_cons, List.map_nil, Nat.zero_add, Nat.add_zero, setAll])
  | ((apply AOps.splitP; exact rfl; exact rfl) <;> intro h)
  | ((apply AOps.splitN; exact rfl; exact rfl) <;> intro h)
  | (apply w_move; exact rfl; exact rfl)
  | (apply w_assign; exact rfl; exact rfl)
  | apply AWp.seq
  | apply AWp.region
  | ((apply AWp.condP; exact rfl) <;> intro h)
  | ((apply AWp.condN; exact rfl) <;> intro h)
  | (apply AWp.condT; exact rfl)
  | (apply AWp.condF; exact rfl)
  | ((apply AWp.condB; exact rfl) <;> intro h)
  | apply AWp.block
  | apply AWp.ret
  | apply AWp.exit
  | apply AWp.skip
  | (apply if_pos'; exact rfl)
  | (apply if_neg'; decide)
  | (apply w_skip; exact rfl)
  | (apply w_pickT; exact rfl; exact rfl; exact rfl)
  | (apply w_pickF; exact rfl; exact rfl; exact rfl)
  | (apply w_len; exact rfl; exact rfl; first | exact .ints _ | exact .intss _ | exact .sli rfl | exact .sls rfl | exact .slr rfl | exact .orow rfl | exact .nil)
  | omega
  | ((first | apply w_lss | apply w_leq | apply w_gtr | apply w_geq | apply w_eql | apply w_neq | apply w_add | apply w_sub | apply w_mul | apply w_idx | apply w_ld | apply w_fld | apply w_fa | apply w_extv | apply w_min | apply w_max | apply w_slhi | apply w_sllo | apply w_bs2); iterate 3 exact rfl)
  | ((first | apply w_eqlb | apply w_neqb | apply w_idxs | apply w_lds | apply w_ext); iterate 3 exact rfl)
  | (apply w_rem; exact rfl; exact rfl; exact rfl; (focus (omega; done)); (focus (omega; done)))
  | (apply w_quo; exact rfl; exact rfl; exact rfl; (focus (omega; done)); (focus (omega; done)))
  | (apply w_remT; exact rfl; exact rfl; exact rfl)
  | (apply w_quoT; exact rfl; exact rfl; exact rfl)
  | ((first | apply w_not | apply w_neg | apply w_conv | apply w_build0 | apply w_bs1 | apply w_boxa); iterate 2 exact rfl)
  | (apply w_idxo; exact rfl; exact rfl; (first | exact .sli rfl | exact .sls rfl | exact .slr rfl); exact rfl)
  | ((first | apply w_idxr | apply w_ldr); iterate 4 exact rfl)
  | (apply w_ldo; iterate 4 exact rfl)
  | (apply w_ldls; iterate 4 exact rfl)
  | (apply w_ldrp; iterate 4 exact rfl)
  | (apply w_ldb; iterate 5 exact rfl)
  | (apply w_ldst; iterate 5 exact rfl)
  | ((first | apply w_sllh | apply w_stbi); iterate 4 exact rfl)
  | ((first | apply w_oslo | apply w_oshi | apply w_stbii); iterate 4 exact rfl)
  | (apply w_build1; exact rfl; exact rfl; (first | exact one_val rfl rfl | exact one_ints | exact one_intss | exact one_own rfl True.intro))
  | (apply w_build2; exact rfl; exact rfl; exact rfl; (first | exact one_val rfl rfl | exact one_ints | exact one_intss | exact one_own rfl True.intro); (first | exact one_val rfl rfl | exact one_ints | exact one_intss | exact one_own rfl True.intro))
  | (apply w_bs0; iterate 1 exact rfl)
  | (apply w_appn; exact rfl; exact rfl; (first | exact .ints _ | exact .sli rfl | exact .orow rfl | exact .nil | exact .osub rfl (by simp; omega)); exact rfl)
  | (apply w_alst; iterate 2 exact rfl)
  | (apply w_alone; iterate 3 exact rfl)
  | (apply w_mkr; exact rfl; exact rfl; rotate_left 3; exact rfl; rotate_left 1)
  | (apply w_sti; exact rfl; exact rfl; rotate_left 1; exact rfl; rotate_left 2)
  | (apply w_stst; iterate 5 exact rfl)
  | (apply w_stbv; iterate 6 exact rfl)
  | (apply w_stbo; exact rfl; exact rfl; exact rfl; exact rfl; exact rfl; exact True.intro)
  | ((apply AOps.splitB; exact rfl; exact rfl) <;> intro h)
  | apply AllOf.nil
  | (apply AllOf.cons; exact rfl)
  | (apply AAny.take; exact rfl; exact rfl; kernel_rfl; kernel_rfl)
  | (apply AAny.all; exact rfl)
  | (apply AAny.done; exact rfl)
  | (apply inI_of <;> omega)
  | omega
  | (simp <;> omega))
    refine AWp.loop (ι := Nat) (fun v => ⟨62, [(3, .own 1), (52, .own 1), (53, .i W.length), (54, .i v)]⟩) (fun v => [.bx 29 [.ints W, .intss E], .sls 22 2 R]) (fun v => v ≤ W.length) (fun v => W.length - v) 0 (by omega) ⟨lee rfl (by (repeat (first | exact le_nil | refine le_eq rfl rfl ?_ | refine le_eq rfl (congrArg AV.i (by omega)) ?_))), by (repeat (first | exact lo_nil | refine lo_dead ?_ | refine lo_eq rfl ?_)), rfl, rfl⟩ ?_
    rintro v v0
    by_cases hv : v < W.length
    · have hsv := hs v hv
      repeat' (first
  | (apply AOps.nil; try simp only [List.nil_append, List.cons_append, List.set_cons_zero, List.set_cons_succ, List.length_cons, List.length_nil, Nat.reduceAdd, AV.sh, AV.sh1, AV.sh0, AO.sh, List.map_cons, List.map_nil, Nat.zero_add, Nat.add_zero, setAll])
  | ((apply AOps.splitP; exact rfl; exact rfl) <;> intro h)
  | ((apply AOps.splitN; exact rfl; exact rfl) <;> intro h)
  | (apply w_move; exact rfl; exact rfl)
  | (apply w_assign; exact rfl; exact rfl)
  | apply AWp.seq
  | apply AWp.region
  | ((apply AWp.condP; exact rfl) <;> intro h)
  | ((apply AWp.condN; exact rfl) <;> intro h)
  | (apply AWp.condT; exact rfl)
  | (apply AWp.condF; exact rfl)
  | ((apply AWp.condB; exact rfl) <;> intro h)
  | apply AWp.block
  | apply AWp.ret
  | apply AWp.exit
  | apply AWp.skip
  | (apply if_pos'; exact rfl)
  | (apply if_neg'; decide)
  | (apply w_skip; exact rfl)
  | (apply w_pickT; exact rfl; exact rfl; exact rfl)
  | (apply w_pickF; exact rfl; exact rfl; exact rfl)
  | (apply w_len; exact rfl; exact rfl; first | exact .ints _ | exact .intss _ | exact .sli rfl | exact .sls rfl | exact .slr rfl | exact .orow rfl | exact .nil)
  | (apply w_callu [] (hsv); (first | exact handed0 | exact handed1 rfl True.intro | exact handed2 rfl rfl rfl True.intro True.intro); (focus ((repeat (first | exact imu_nil | refine imu_cons rfl (.orow rfl (by decide)) ?_ | refine imu_cons rfl (.val _) ?_ | refine imu_cons rfl (.ints _) ?_ | refine imu_cons rfl (.own rfl) ?_ | refine imu_cons rfl (.sli rfl (by decide)) ?_ | refine imu_cons rfl (.intss _) ?_ | refine imu_cons rfl (.sls rfl (by decide)) ?_ | refine imu_cons rfl (imu_agg2 (.val _) (.own rfl)) ?_ | refine imu_cons rfl (imu_agg2 (.own rfl) (.own rfl)) ?_ | refine imu_cons rfl (imu_agg1 (.own rfl)) ?_)); done)); rintro v os0 ⟨rfl, rfl⟩; try simp only [List.nil_append, List.cons_append, List.set_cons_zero, List.set_cons_succ, List.length_cons, List.length_nil, Nat.reduceAdd, AV.sh, AV.sh1, AV.sh0, AO.sh, List.map_cons, List.map_nil, Nat.zero_add, Nat.add_zero, setAll])
  | omega
  | ((first | apply w_lss | apply w_leq | apply w_gtr | apply w_geq | apply w_eql | apply w_neq | apply w_add | apply w_sub | apply w_mul | apply w_idx | apply w_ld | apply w_fld | apply w_fa | apply w_extv | apply w_min | apply w_max | apply w_slhi | apply w_sllo | apply w_bs2); iterate 3 exact rfl)
  | ((first | apply w_eqlb | apply w_neqb | apply w_idxs | apply w_lds | apply w_ext); iterate 3 exact rfl)
  | (apply w_rem; exact rfl; exact rfl; exact rfl; (focus (omega; done)); (focus (omega; done)))
  | (apply w_quo; exact rfl; exact rfl; exact rfl; (focus (omega; done)); (focus (omega; done)))
  | (apply w_remT; exact rfl; exact rfl; exact rfl)
  | (apply w_quoT; exact rfl; exact rfl; exact rfl)
  | ((first | apply w_not | apply w_neg | apply w_conv | apply w_build0 | apply w_bs1 | apply w_boxa); iterate 2 exact rfl)
  | (apply w_idxo; exact rfl; exact rfl; (first | exact .sli rfl | exact .sls rfl | exact .slr rfl); exact rfl)
  | ((first | apply w_idxr | apply w_ldr); iterate 4 exact rfl)
  | (apply w_ldo; iterate 4 exact rfl)
  | (apply w_ldls; iterate 4 exact rfl)
  | (apply w_ldrp; iterate 4 exact rfl)
  | (apply w_ldb; iterate 5 exact rfl)
  | (apply w_ldst; iterate 5 exact rfl)
  | ((first | apply w_sllh | apply w_stbi); iterate 4 exact rfl)
  | ((first | apply w_oslo | apply w_oshi | apply w_stbii); iterate 4 exact rfl)
  | (apply w_build1; exact rfl; exact rfl; (first | exact one_val rfl rfl | exact one_ints | exact one_intss | exact one_own rfl True.intro))
  | (apply w_build2; exact rfl; exact rfl; exact rfl; (first | exact one_val rfl rfl | exact one_ints | exact one_intss | exact one_own rfl True.intro); (first | exact one_val rfl rfl | exact one_ints | exact one_intss | exact one_own rfl True.intro))
  | (apply w_bs0; iterate 1 exact rfl)
  | (apply w_appn; exact rfl; exact rfl; (first | exact .ints _ | exact .sli rfl | exact .orow rfl | exact .nil | exact .osub rfl (by simp; omega)); exact rfl)
  | (apply w_alst; iterate 2 exact rfl)
  | (apply w_alone; iterate 3 exact rfl)
  | (apply w_mkr; exact rfl; exact rfl; rotate_left 3; exact rfl; rotate_left 1)
  | (apply w_sti; exact rfl; exact rfl; rotate_left 1; exact rfl; rotate_left 2)
  | (apply w_stst; iterate 5 exact rfl)
  | (apply w_stbv; iterate 6 exact rfl)
  | (apply w_stbo; exact rfl; exact rfl; exact rfl; exact rfl; exact rfl; exact True.intro)
  | ((apply AOps.splitB; exact rfl; exact rfl) <;> intro h)
  | apply AllOf.nil
  | (apply AllOf.cons; exact rfl)
  | (apply AAny.take; exact rfl; exact rfl; kernel_rfl; kernel_rfl)
  | (apply AAny.all; exact rfl)
  | (apply AAny.done; exact rfl)
  | (apply inI_of <;> omega)
  | omega
  | (simp <;> omega))
      exact ⟨v + 1, by omega, by omega, ⟨lee rfl (by (repeat (first | exact le_nil | refine le_eq rfl rfl ?_ | refine le_eq rfl (congrArg AV.i (by omega)) ?_))), by (repeat (first | exact lo_nil | refine lo_dead ?_ | refine lo_eq rfl ?_)), rfl, rfl⟩⟩
    · repeat' (first
  | (apply AOps.nil; try simp only [List.nil_append, List.cons_append, List.set_cons_zero, List.set_cons_succ, List.length_cons, List.length_nil, Nat.reduceAdd, AV.sh, AV.sh1, AV.sh0, AO.sh, List.map_cons, List.map_nil, Nat.zero_add, Nat.add_zero, setAll])
  | ((apply AOps.splitP; exact rfl; exact rfl) <;> intro h)
  | ((apply AOps.splitN; exact rfl; exact rfl) <;> intro h)
  | (apply w_move; exact rfl; exact rfl)
  | (apply w_assign; exact rfl; exact rfl)
  | apply AWp.seq
  | apply AWp.region
  | ((apply AWp.condP; exact rfl) <;> intro h)
  | ((apply AWp.condN; exact rfl) <;> intro h)
  | (apply AWp.condT; exact rfl)
  | (apply AWp.condF; exact rfl)
  | ((apply AWp.condB; exact rfl) <;> intro h)
  | apply AWp.block
  | apply AWp.ret
  | apply AWp.exit
  | apply AWp.skip
  | (apply if_pos'; exact rfl)
  | (apply if_neg'; decide)
  | (apply w_skip; exact rfl)
  | (apply w_pickT; exact rfl; exact rfl; exact rfl)
  | (apply w_pickF; exact rfl; exact rfl; exact rfl)
  | (apply w_len; exact rfl; exact rfl; first | exact .ints _ | exact .intss _ | exact .sli rfl | exact .sls rfl | exact .slr rfl | exact .orow rfl | exact .nil)
  | omega
  | ((first | apply w_lss | apply w_leq | apply w_gtr | apply w_geq | apply w_eql | apply w_neq | apply w_add | apply w_sub | apply w_mul | apply w_idx | apply w_ld | apply w_fld | apply w_fa | apply w_extv | apply w_min | apply w_max | apply w_slhi | apply w_sllo | apply w_bs2); iterate 3 exact rfl)
  | ((first | apply w_eqlb | apply w_neqb | apply w_idxs | apply w_lds | apply w_ext); iterate 3 exact rfl)
  | (apply w_rem; exact rfl; exact rfl; exact rfl; (focus (omega; done)); (focus (omega; done)))
  | (apply w_quo; exact rfl; exact rfl; exact rfl; (focus (omega; done)); (focus (omega; done)))
  | (apply w_remT; exact rfl; exact rfl; exact rfl)
  | (apply w_quoT; exact rfl; exact rfl; exact rfl)
  | ((first | apply w_not | apply w_neg | apply w_conv | apply w_build0 | apply w_bs1 | apply w_boxa); iterate 2 exact rfl)
  | (apply w_idxo; exact rfl; exact rfl; (first | exact .sli rfl | exact .sls rfl | exact .slr rfl); exact rfl)
  | ((first | apply w_idxr | apply w_ldr); iterate 4 exact rfl)
  | (apply w_ldo; iterate 4 exact rfl)
  | (apply w_ldls; iterate 4 exact rfl)
  | (apply w_ldrp; iterate 4 exact rfl)
  | (apply w_ldb; iterate 5 exact rfl)
  | (apply w_ldst; iterate 5 exact rfl)
  | ((first | apply w_sllh | apply w_stbi); iterate 4 exact rfl)
  | ((first | apply w_oslo | apply w_oshi | apply w_stbii); iterate 4 exact rfl)
  | (apply w_build1; exact rfl; exact rfl; (first | exact one_val rfl rfl | exact one_ints | exact one_intss | exact one_own rfl True.intro))
  | (apply w_build2; exact rfl; exact rfl; exact rfl; (first | exact one_val rfl rfl | exact one_ints | exact one_intss | exact one_own rfl True.intro); (first | exact one_val rfl rfl | exact one_ints | exact one_intss | exact one_own rfl True.intro))
  | (apply w_bs0; iterate 1 exact rfl)
  | (apply w_appn; exact rfl; exact rfl; (first | exact .ints _ | exact .sli rfl | exact .orow rfl | exact .nil | exact .osub rfl (by simp; omega)); exact rfl)
  | (apply w_alst; iterate 2 exact rfl)
  | (apply w_alone; iterate 3 exact rfl)
  | (apply w_mkr; exact rfl; exact rfl; rotate_left 3; exact rfl; rotate_left 1)
  | (apply w_sti; exact rfl; exact rfl; rotate_left 1; exact rfl; rotate_left 2)
  | (apply w_stst; iterate 5 exact rfl)
  | (apply w_stbv; iterate 6 exact rfl)
  | (apply w_stbo; exact rfl; exact rfl; exact rfl; exact rfl; exact rfl; exact True.intro)
  | ((apply AOps.splitB; exact rfl; exact rfl) <;> intro h)
  | apply AllOf.nil
  | (apply AllOf.cons; exact rfl)
  | (apply AAny.take; exact rfl; exact rfl; kernel_rfl; kernel_rfl)
  | (apply AAny.all; exact rfl)
  | (apply AAny.done; exact rfl)
  | (apply inI_of <;> omega)
  | omega
  | (simp <;> omega))
      exact ⟨_, _, _, .v1 Try.results50 rfl, .sls rfl, rfl, rfl⟩
end Go.Proofs.Ytbalbiliejjnoaa
/-
  Neighbours and trees, walked: the reference. Condition: a forest of at most 40 vertices.
-/
namespace Go.Proofs.Ytbalbiliejjnoaa
open Go Go.RowKit
attribute [local irreducible] AWp AOps ResIs Ret1 QOp LOp COp AFnV AFn Imms LeE LeO
set_option maxHeartbeats 1000000
set_option linter.unusedSimpArgs false
set_option linter.unusedVariables false

theorem all_nil' {α : Type} {p : α → Prop} : ∀ x ∈ ([] : List α), p x := fun _ h => by cases h
theorem all_cons' {α : Type} {p : α → Prop} {a : α} {l : List α} (h : p a) (hs : ∀ x ∈ l, p x) : ∀ x ∈ a :: l, p x := fun x hx => by
  rcases List.mem_cons.1 hx with rfl | hx
  · exact h
  · exact hs x hx
def nr1 (E : List (List Int)) (v : Int) : List Int := (E.filter fun e => decide (geti e 1 = v)).map fun e => geti e 0
def nr0 (E : List (List Int)) (v : Int) : List Int := (E.filter fun e => decide (geti e 0 = v)).map fun e => geti e 1
theorem near_cut (E : List (List Int)) (v : Int) : nearL E v = nr1 E v ++ nr0 E v := rfl
theorem nr1_len (E : List (List Int)) (v : Int) : (nr1 E v).length ≤ E.length := by
  unfold nr1; rw [List.length_map]; exact List.length_filter_le _ _
theorem nr0_len (E : List (List Int)) (v : Int) : (nr0 E v).length ≤ E.length := by
  unfold nr0; rw [List.length_map]; exact List.length_filter_le _ _
theorem nr1_snoc {E : List (List Int)} {k : Nat} (h : k < E.length) (v : Int) : nr1 (E.take (k + 1)) v = nr1 (E.take k) v ++ (if geti (gets E (k : Nat)) 1 = v then [geti (gets E (k : Nat)) 0] else []) := by
  have e : E[k] = gets E (k : Nat) := by simp [gets, h]
  unfold nr1
  rw [List.take_succ_eq_append_getElem h, List.filter_append, List.map_append, e]
  congr 1
  by_cases hc : geti (gets E (k : Nat)) 1 = v
  · rw [if_pos hc, List.filter_cons_of_pos (by exact decide_eq_true hc)]; rfl
  · rw [if_neg hc, List.filter_cons_of_neg (by simpa using hc)]; rfl
theorem nr0_snoc {E : List (List Int)} {k : Nat} (h : k < E.length) (v : Int) : nr0 (E.take (k + 1)) v = nr0 (E.take k) v ++ (if geti (gets E (k : Nat)) 0 = v then [geti (gets E (k : Nat)) 1] else []) := by
  have e : E[k] = gets E (k : Nat) := by simp [gets, h]
  unfold nr0
  rw [List.take_succ_eq_append_getElem h, List.filter_append, List.map_append, e]
  congr 1
  by_cases hc : geti (gets E (k : Nat)) 0 = v
  · rw [if_pos hc, List.filter_cons_of_pos (by exact decide_eq_true hc)]; rfl
  · rw [if_neg hc, List.filter_cons_of_neg (by simpa using hc)]; rfl

set_option maxHeartbeats 16000000 in
theorem l11Near_c (W : List Int) (E : List (List Int)) (h : GrF W E) (v : Int) : AFn Try.prog 26 [.agg [.ints W, .intss E], .i v] (IsInts 2 (nearL E v)) := by
  have hn := h.n
  have hE := h.e
  have hat := h.at
  (refine AFn.start Try.func26 Try.ntmps26 rfl (by kernel_rfl) fun hk => ?_; simp only [Env.start, enumF, List.length_cons, List.length_nil, Nat.reduceAdd, Nat.reduceSub, List.cons_append, List.nil_append])
  repeat' (first | (apply AOps.nil; try simp only [List.nil_append, List.cons_append, List.set_cons_zero, List.set_cons_succ, List.length_cons, List.length_nil, Nat.reduceAdd, AV.sh, AV.sh1, AV.sh0, AO.sh, List.map_cons, List.map_nil, Nat.zero_add, Nat.add_zero, setAll]) | (apply w_assign; exact rfl; exact rfl) | apply AWp.seq | apply AWp.region | apply AWp.block | ((apply w_boxa); iterate 2 exact rfl) | (apply w_bs0; iterate 1 exact rfl))
  refine AWp.loop (ι := Nat) (fun k => ⟨62, [(1, .i v), (2, .optr 0 0), (5, .own 1), (6, .i k)]⟩) (fun k => [.bx 29 [.ints W, .intss E], .sli 2 (nr1 (E.take k) v)]) (fun k => k ≤ E.length) (fun k => E.length - k) 0 (by omega) ⟨lee rfl (by (repeat (first | exact le_nil | refine le_eq rfl rfl ?_))), by (repeat (first | exact lo_nil | refine lo_eq rfl ?_)), rfl, rfl⟩ ?_
  intro k k0
  have hl := nr1_len (E.take k) v
  rw [List.length_take] at hl
  by_cases hk : k < E.length
  · obtain ⟨a1, a2, a3, a4⟩ := hat k hk
    have hs := nr1_snoc hk v
    have hbl : ((nr1 (E.take k) v).length + [geti (gets E (k : Nat)) 0].length) * 8 ≤ 140737488355328 := by
      simp only [List.length_cons, List.length_nil]; omega
    generalize nr1 (E.take k) v = L at *
    by_cases hc : geti (gets E (k : Nat)) 1 = v
    · rw [if_pos hc] at hs
      repeat' (first | (apply AOps.nil; try simp only [List.nil_append, List.cons_append, List.set_cons_zero, List.set_cons_succ, List.length_cons, List.length_nil, Nat.reduceAdd, AV.sh, AV.sh1, AV.sh0, AO.sh, List.map_cons, List.map_nil, Nat.zero_add, Nat.add_zero, setAll]) | (apply w_move; exact rfl; exact rfl) | (apply w_assign; exact rfl; exact rfl) | apply AWp.seq | apply AWp.region | ((apply AWp.condP; exact rfl) <;> intro h) | apply AWp.block | apply AWp.exit | apply AWp.skip | (apply w_len; exact rfl; exact rfl; first | exact .ints _ | exact .intss _ | exact .sli rfl | exact .sls rfl | exact .slr rfl | exact .orow rfl | exact .nil) | omega | ((first | apply w_lss | apply w_eql | apply w_add | apply w_idx | apply w_ld | apply w_fa); iterate 3 exact rfl) | ((first | apply w_idxs | apply w_lds); iterate 3 exact rfl) | ((apply w_bs1); iterate 2 exact rfl) | (apply w_ldb; iterate 5 exact rfl) | (apply w_app; exact rfl; exact rfl; exact rfl; exact rfl; (exact .sli rfl); rotate_left 1; simp only [Env.mp, List.map_cons, List.map_nil, List.set_cons_zero, List.set_cons_succ, AV.kill, AV.kill1, AO.kill, AV.noRow, AV.noRow1, AO.via, reduceIte, Nat.reduceEqDiff, Nat.reduceLT, Env.up, Nat.zero_ne_one, Nat.one_ne_zero, Nat.reduceAdd, List.cons_append, List.nil_append]; rotate_left 1) | (apply inI_of <;> omega))
      exact ⟨k + 1, by omega, by omega, ⟨lee rfl (by (repeat (first | exact le_nil | refine le_eq rfl rfl ?_))), by (repeat (first | exact lo_nil | refine lo_eq rfl ?_ | refine lo_eq (congrArg (AO.sli _) (hs.symm)) ?_)), rfl, rfl⟩⟩
    · rw [if_neg hc, List.append_nil] at hs
      repeat' (first | (apply AOps.nil; try simp only [List.nil_append, List.cons_append, List.set_cons_zero, List.set_cons_succ, List.length_cons, List.length_nil, Nat.reduceAdd, AV.sh, AV.sh1, AV.sh0, AO.sh, List.map_cons, List.map_nil, Nat.zero_add, Nat.add_zero, setAll]) | (apply w_move; exact rfl; exact rfl) | (apply w_assign; exact rfl; exact rfl) | apply AWp.seq | apply AWp.region | ((apply AWp.condP; exact rfl) <;> intro h) | apply AWp.block | apply AWp.exit | apply AWp.skip | (apply w_len; exact rfl; exact rfl; first | exact .ints _ | exact .intss _ | exact .sli rfl | exact .sls rfl | exact .slr rfl | exact .orow rfl | exact .nil) | omega | ((first | apply w_lss | apply w_eql | apply w_add | apply w_idx | apply w_ld | apply w_fa); iterate 3 exact rfl) | ((first | apply w_idxs | apply w_lds); iterate 3 exact rfl) | (apply w_ldb; iterate 5 exact rfl) | (apply inI_of <;> omega))
      exact ⟨k + 1, by omega, by omega, ⟨lee rfl (by (repeat (first | exact le_nil | refine le_eq rfl rfl ?_))), by (repeat (first | exact lo_nil | refine lo_eq rfl ?_ | refine lo_eq (congrArg (AO.sli _) (hs.symm)) ?_)), rfl, rfl⟩⟩
  have ek : k = E.length := by omega
  subst ek
  rw [List.take_length] at hl ⊢
  repeat' (first | (apply AOps.nil; try simp only [List.nil_append, List.cons_append, List.set_cons_zero, List.set_cons_succ, List.length_cons, List.length_nil, Nat.reduceAdd, AV.sh, AV.sh1, AV.sh0, AO.sh, List.map_cons, List.map_nil, Nat.zero_add, Nat.add_zero, setAll]) | (apply w_move; exact rfl; exact rfl) | (apply w_assign; exact rfl; exact rfl) | apply AWp.seq | apply AWp.region | ((apply AWp.condP; exact rfl) <;> intro h) | apply AWp.block | apply AWp.exit | apply AWp.skip | (apply w_len; exact rfl; exact rfl; first | exact .ints _ | exact .intss _ | exact .sli rfl | exact .sls rfl | exact .slr rfl | exact .orow rfl | exact .nil) | omega | ((first | apply w_lss | apply w_ld | apply w_fa); iterate 3 exact rfl) | (apply w_ldb; iterate 5 exact rfl))
  refine AWp.loop (ι := Nat) (fun k => ⟨62, [(1, .i v), (2, .optr 0 0), (5, .own 1), (7, .i k)]⟩) (fun k => [.bx 29 [.ints W, .intss E], .sli 2 (nr1 E v ++ nr0 (E.take k) v)]) (fun k => k ≤ E.length) (fun k => E.length - k) 0 (by omega) ⟨lee rfl (by (repeat (first | exact le_nil | refine le_eq rfl rfl ?_))), by (repeat (first | exact lo_nil | refine lo_eq rfl ?_ | refine lo_eq (congrArg (AO.sli _) ((List.append_nil _).symm)) ?_)), rfl, rfl⟩ ?_
  intro k k0
  have hl0 := nr0_len (E.take k) v
  rw [List.length_take] at hl0
  by_cases hk : k < E.length
  · obtain ⟨a1, a2, a3, a4⟩ := hat k hk
    have hs : nr1 E v ++ nr0 (E.take (k + 1)) v = (nr1 E v ++ nr0 (E.take k) v) ++ (if geti (gets E (k : Nat)) 0 = v then [geti (gets E (k : Nat)) 1] else []) := by rw [nr0_snoc hk, List.append_assoc]
    have hbl : ((nr1 E v ++ nr0 (E.take k) v).length + [geti (gets E (k : Nat)) 1].length) * 8 ≤ 140737488355328 := by
      simp only [List.length_cons, List.length_nil, List.length_append]; omega
    generalize nr1 E v ++ nr0 (E.take k) v = L at *
    by_cases hc : geti (gets E (k : Nat)) 0 = v
    · rw [if_pos hc] at hs
      repeat' (first | (apply AOps.nil; try simp only [List.nil_append, List.cons_append, List.set_cons_zero, List.set_cons_succ, List.length_cons, List.length_nil, Nat.reduceAdd, AV.sh, AV.sh1, AV.sh0, AO.sh, List.map_cons, List.map_nil, Nat.zero_add, Nat.add_zero, setAll]) | (apply w_move; exact rfl; exact rfl) | (apply w_assign; exact rfl; exact rfl) | apply AWp.seq | apply AWp.region | ((apply AWp.condP; exact rfl) <;> intro h) | apply AWp.block | apply AWp.ret | apply AWp.exit | apply AWp.skip | (apply w_len; exact rfl; exact rfl; first | exact .ints _ | exact .intss _ | exact .sli rfl | exact .sls rfl | exact .slr rfl | exact .orow rfl | exact .nil) | omega | ((first | apply w_lss | apply w_eql | apply w_add | apply w_idx | apply w_ld | apply w_fa); iterate 3 exact rfl) | ((first | apply w_idxs | apply w_lds); iterate 3 exact rfl) | ((apply w_bs1); iterate 2 exact rfl) | (apply w_ldb; iterate 5 exact rfl) | (apply w_app; exact rfl; exact rfl; exact rfl; exact rfl; (exact .sli rfl); rotate_left 1; simp only [Env.mp, List.map_cons, List.map_nil, List.set_cons_zero, List.set_cons_succ, AV.kill, AV.kill1, AO.kill, AV.noRow, AV.noRow1, AO.via, reduceIte, Nat.reduceEqDiff, Nat.reduceLT, Env.up, Nat.zero_ne_one, Nat.one_ne_zero, Nat.reduceAdd, List.cons_append, List.nil_append]; rotate_left 1) | (apply inI_of <;> omega))
      exact ⟨k + 1, by omega, by omega, ⟨lee rfl (by (repeat (first | exact le_nil | refine le_eq rfl rfl ?_))), by (repeat (first | exact lo_nil | refine lo_eq rfl ?_ | refine lo_eq (congrArg (AO.sli _) (hs.symm)) ?_)), rfl, rfl⟩⟩
    · rw [if_neg hc, List.append_nil] at hs
      repeat' (first | (apply AOps.nil; try simp only [List.nil_append, List.cons_append, List.set_cons_zero, List.set_cons_succ, List.length_cons, List.length_nil, Nat.reduceAdd, AV.sh, AV.sh1, AV.sh0, AO.sh, List.map_cons, List.map_nil, Nat.zero_add, Nat.add_zero, setAll]) | (apply w_move; exact rfl; exact rfl) | (apply w_assign; exact rfl; exact rfl) | apply AWp.seq | apply AWp.region | ((apply AWp.condP; exact rfl) <;> intro h) | apply AWp.block | apply AWp.ret | apply AWp.exit | apply AWp.skip | (apply w_len; exact rfl; exact rfl; first | exact .ints _ | exact .intss _ | exact .sli rfl | exact .sls rfl | exact .slr rfl | exact .orow rfl | exact .nil) | omega | ((first | apply w_lss | apply w_eql | apply w_add | apply w_idx | apply w_ld | apply w_fa); iterate 3 exact rfl) | ((first | apply w_idxs | apply w_lds); iterate 3 exact rfl) | (apply w_ldb; iterate 5 exact rfl) | (apply inI_of <;> omega))
      exact ⟨k + 1, by omega, by omega, ⟨lee rfl (by (repeat (first | exact le_nil | refine le_eq rfl rfl ?_))), by (repeat (first | exact lo_nil | refine lo_eq rfl ?_ | refine lo_eq (congrArg (AO.sli _) (hs.symm)) ?_)), rfl, rfl⟩⟩
  have ek : k = E.length := by omega
  subst ek
  rw [List.take_length, ← near_cut]
  repeat' (first | (apply AOps.nil; try simp only [List.nil_append, List.cons_append, List.set_cons_zero, List.set_cons_succ, List.length_cons, List.length_nil, Nat.reduceAdd, AV.sh, AV.sh1, AV.sh0, AO.sh, List.map_cons, List.map_nil, Nat.zero_add, Nat.add_zero, setAll]) | (apply w_move; exact rfl; exact rfl) | (apply w_assign; exact rfl; exact rfl) | apply AWp.seq | apply AWp.region | ((apply AWp.condP; exact rfl) <;> intro h) | apply AWp.block | apply AWp.ret | apply AWp.exit | apply AWp.skip | (apply w_len; exact rfl; exact rfl; first | exact .ints _ | exact .intss _ | exact .sli rfl | exact .sls rfl | exact .slr rfl | exact .orow rfl | exact .nil) | omega | ((first | apply w_lss | apply w_ld | apply w_fa); iterate 3 exact rfl) | (apply w_ldb; iterate 5 exact rfl))
  exact ⟨_, _, _, .v1 Try.results26 rfl, .sli rfl, rfl, rfl⟩

set_option maxHeartbeats 16000000 in
theorem l11Order_c (W : List Int) (E : List (List Int)) (h : GrF W E) (r : Int) (hr : 0 ≤ r ∧ r < W.length) :
    AFnC Try.prog 59 [.agg [.ints W, .intss E], .i r] [] (fun v os => v = .tup [.own 0, .own 1] ∧ ∃ o p, Tr W.length (nearL E) r o p ∧ os = [.sli 2 o, .sli 2 p]) := by
  have hn := h.n
  have hF := h.fo.fst
  have hstart := Inv.start (near := nearL E) hr
  have hnear := l11Near_c W E h
  (refine AFnC.start Try.func59 Try.ntmps59 rfl (by kernel_rfl) fun K => ?_; simp only [Env.start, enumF, List.map_cons, List.map_nil, AV.sh, List.length_cons, List.length_nil, Nat.reduceAdd, Nat.reduceSub, List.cons_append, List.nil_append])
  repeat' (first | (apply AOps.nil; try simp only [List.nil_append, List.cons_append, List.set_cons_zero, List.set_cons_succ, List.length_cons, List.length_nil, Nat.reduceAdd, AV.sh, AV.sh1, AV.sh0, AO.sh, List.map_cons, List.map_nil, Nat.zero_add, Nat.add_zero, setAll]) | (apply w_assign; exact rfl; exact rfl) | apply AWp.seq | apply AWp.region | apply AWp.block | ((apply w_boxa); iterate 2 exact rfl) | (apply w_bs0; iterate 1 exact rfl))
  refine AWp.loop (ι := Nat) (fun i => ⟨74, [(1, .i r), (2, .optr 1 0), (6, .own 2), (7, .i i)]⟩) (fun i => [.keep 1 K, .bx 29 [.ints W, .intss E], .sli 2 (List.replicate i (-1))]) (fun i => i ≤ W.length) (fun i => W.length - i) 0 (by omega) ⟨lee rfl (by (repeat (first | exact le_nil | refine le_eq rfl rfl ?_))), by (repeat (first | exact lo_nil | refine lo_eq rfl ?_)), rfl, rfl⟩ ?_
  intro i i0
  have hrl : (List.replicate i (-1 : Int)).length = i := List.length_replicate
  have hrs : List.replicate (i + 1) (-1 : Int) = List.replicate i (-1) ++ [-1] := List.replicate_succ'
  by_cases hi : i < W.length
  · have hbl : ((List.replicate i (-1 : Int)).length + [(-1 : Int)].length) * 8 ≤ 140737488355328 := by
      simp only [List.length_cons, List.length_nil]; omega
    generalize List.replicate i (-1 : Int) = L at *
    repeat' (first | (apply AOps.nil; try simp only [List.nil_append, List.cons_append, List.set_cons_zero, List.set_cons_succ, List.length_cons, List.length_nil, Nat.reduceAdd, AV.sh, AV.sh1, AV.sh0, AO.sh, List.map_cons, List.map_nil, Nat.zero_add, Nat.add_zero, setAll]) | (apply w_move; exact rfl; exact rfl) | (apply w_assign; exact rfl; exact rfl) | apply AWp.seq | apply AWp.region | ((apply AWp.condP; exact rfl) <;> intro h) | apply AWp.block | apply AWp.exit | apply AWp.skip | (apply w_len; exact rfl; exact rfl; first | exact .ints _ | exact .intss _ | exact .sli rfl | exact .sls rfl | exact .slr rfl | exact .orow rfl | exact .nil) | omega | ((first | apply w_lss | apply w_add | apply w_ld | apply w_fa); iterate 3 exact rfl) | ((apply w_bs1); iterate 2 exact rfl) | (apply w_ldb; iterate 5 exact rfl) | (apply w_app; exact rfl; exact rfl; exact rfl; exact rfl; (exact .sli rfl); rotate_left 1; simp only [Env.mp, List.map_cons, List.map_nil, List.set_cons_zero, List.set_cons_succ, AV.kill, AV.kill1, AO.kill, AV.noRow, AV.noRow1, AO.via, reduceIte, Nat.reduceEqDiff, Nat.reduceLT, Env.up, Nat.zero_ne_one, Nat.one_ne_zero, Nat.reduceAdd, List.cons_append, List.nil_append]; rotate_left 1) | (apply inI_of <;> omega))
    exact ⟨i + 1, by omega, by omega, ⟨lee rfl (by (repeat (first | exact le_nil | refine le_eq rfl rfl ?_))), by (repeat (first | exact lo_nil | refine lo_eq rfl ?_ | refine lo_eq (congrArg (AO.sli _) (hrs.symm)) ?_)), rfl, rfl⟩⟩
  have ei : i = W.length := by omega
  subst ei
  repeat' (first | (apply AOps.nil; try simp only [List.nil_append, List.cons_append, List.set_cons_zero, List.set_cons_succ, List.length_cons, List.length_nil, Nat.reduceAdd, AV.sh, AV.sh1, AV.sh0, AO.sh, List.map_cons, List.map_nil, Nat.zero_add, Nat.add_zero, setAll]) | (apply w_move; exact rfl; exact rfl) | (apply w_assign; exact rfl; exact rfl) | apply AWp.seq | apply AWp.region | ((apply AWp.condP; exact rfl) <;> intro h) | apply AWp.block | apply AWp.exit | apply AWp.skip | (apply w_len; exact rfl; exact rfl; first | exact .ints _ | exact .intss _ | exact .sli rfl | exact .sls rfl | exact .slr rfl | exact .orow rfl | exact .nil) | omega | ((first | apply w_lss | apply w_ld | apply w_fa); iterate 3 exact rfl) | ((apply w_bs1); iterate 2 exact rfl) | (apply w_ldb; iterate 5 exact rfl) | (apply inI_of <;> omega))
  refine AWp.loop (ι := Nat × List Int × List Int) (fun x => ⟨74, [(2, .optr 1 0), (6, .own 2), (8, .own 3), (9, .i x.1)]⟩) (fun x => [.keep 1 K, .bx 29 [.ints W, .intss E], .sli 2 x.2.2, .sli 2 x.2.1]) (fun x => Inv W.length (nearL E) r x.1 x.2.1 x.2.2) (fun x => W.length - x.1) (0, [r], List.replicate W.length (-1)) hstart ⟨lee rfl (by (repeat (first | exact le_nil | refine le_eq rfl rfl ?_))), by (repeat (first | exact lo_nil | refine lo_eq rfl ?_)), rfl, rfl⟩ ?_
  rintro ⟨i, o, p⟩ hI
  have hob := hI.bd
  have hle := hI.le
  simp only at hI hob hle
  have hpl := hI.len
  by_cases hi2 : i < o.length
  · obtain ⟨v, ev⟩ : ∃ v, v = geti o (((i : Nat) : Int).toNat : Nat) := ⟨_, rfl⟩
    have ev2 : o[i]? = some v := by
      rw [ev, Int.toNat_natCast]; simp [geti, List.getD_eq_getElem?_getD, List.getElem?_eq_getElem hi2]
    have hvm : v ∈ o := List.mem_of_getElem? ev2
    have hvr := hI.rng v hvm
    have hnv := hnear v
    have hnl := fun u => hF.bnd v u
    have hnd := hF.nd v
    have hin := hI.into ev2
    have hlen : (nearL E v).length ≤ W.length := nd_len hnd (fun x hx => (hF.bnd v x hx).1)
    repeat' (first | (apply AOps.nil; try simp only [List.nil_append, List.cons_append, List.set_cons_zero, List.set_cons_succ, List.length_cons, List.length_nil, Nat.reduceAdd, AV.sh, AV.sh1, AV.sh0, AO.sh, List.map_cons, List.map_nil, Nat.zero_add, Nat.add_zero, setAll]) | (apply w_move; exact rfl; exact rfl) | (apply w_assign; exact rfl; exact rfl) | apply AWp.seq | apply AWp.region | ((apply AWp.condP; exact rfl) <;> intro h) | apply AWp.block | apply AWp.ret | apply AWp.exit | apply AWp.skip | (apply w_len; exact rfl; exact rfl; first | exact .ints _ | exact .intss _ | exact .sli rfl | exact .sls rfl | exact .slr rfl | exact .orow rfl | exact .nil) | omega | ((apply w_lss); iterate 3 exact rfl))
    refine AWp.regionG [] (by kernel_rfl) (envC := ⟨74, [(2, .optr 1 0), (6, .own 2), (8, .own 3), (9, .i i), (10, .own 4)]⟩) (osC := [.keep 1 K, .bx 29 [.ints W, .intss E], .sli 2 p, .sli 2 o, .sli 2 (nearL E v)]) rfl (by first | exact rfl | (simp [AO.lim, AV.lim, bL_lim]; done)) ?_ ?_
    · rw [ev] at hnv ⊢
      repeat' (first | (apply AOps.nil; try simp only [List.nil_append, List.cons_append, List.set_cons_zero, List.set_cons_succ, List.length_cons, List.length_nil, Nat.reduceAdd, AV.sh, AV.sh1, AV.sh0, AO.sh, List.map_cons, List.map_nil, Nat.zero_add, Nat.add_zero, setAll]) | (apply w_move; exact rfl; exact rfl) | (apply w_assign; exact rfl; exact rfl) | apply AllOfG.nil | (apply AllOfG.consS; exact rfl; exact rfl) | (apply AAnyG.takeW; exact rfl; exact rfl; kernel_rfl; kernel_rfl) | (apply AAnyG.takeL; exact rfl; exact rfl; kernel_rfl) | (apply AAnyG.all; exact rfl) | (apply AAnyG.done; exact rfl) | (apply w_callm (hnv); (focus ((repeat (first | exact im_nil | refine im_cons rfl (im_agg2 (.ints _) (.intss _)) ?_ | refine im_cons rfl (.val _) ?_)); done)); rintro r os0 ⟨rfl, rfl⟩; try simp only [List.nil_append, List.cons_append, List.set_cons_zero, List.set_cons_succ, List.length_cons, List.length_nil, Nat.reduceAdd, AV.sh, AV.sh1, AV.sh0, AO.sh, List.map_cons, List.map_nil, Nat.zero_add, Nat.add_zero, setAll]) | omega | (apply w_idxo; exact rfl; exact rfl; (exact .sli rfl); exact rfl) | (apply w_ldo; iterate 4 exact rfl) | (apply w_ldst; iterate 5 exact rfl))
      all_goals (apply Or.inl; refine ⟨lee rfl ?_, ?_, rfl, (by first | exact rfl | (simp [AO.lim, AV.lim, bL_lim]; done))⟩; (focus ((repeat (first | exact le_nil | refine le_eq rfl rfl ?_)); done)); (focus ((repeat (first | exact lo_nil | refine lo_eq rfl ?_)); done)))
    clear hnv
    repeat' (first | (apply AOps.nil; try simp only [List.nil_append, List.cons_append, List.set_cons_zero, List.set_cons_succ, List.length_cons, List.length_nil, Nat.reduceAdd, AV.sh, AV.sh1, AV.sh0, AO.sh, List.map_cons, List.map_nil, Nat.zero_add, Nat.add_zero, setAll]) | (apply w_assign; exact rfl; exact rfl) | apply AWp.seq | apply AWp.region | apply AWp.block)
    refine AWp.loop (ι := Nat × List Int × List Int) (fun x => ⟨74, [(2, .optr 1 0), (6, .own 2), (8, .own 3), (9, .i i), (10, .own 4), (11, .i x.1)]⟩) (fun x => [.keep 1 K, .bx 29 [.ints W, .intss E], .sli 2 x.2.2, .sli 2 x.2.1, .sli 2 (nearL E v)]) (fun x => x.1 ≤ (nearL E v).length ∧ InvK W.length (nearL E) r i v ((nearL E v).take x.1) x.2.1 x.2.2) (fun x => (nearL E v).length - x.1) (0, o, p) ⟨by simp only; omega, hin⟩ ⟨lee rfl (by (repeat (first | exact le_nil | refine le_eq rfl rfl ?_))), by (repeat (first | exact lo_nil | refine lo_eq rfl ?_)), rfl, (by first | exact rfl | (simp [AO.lim, AV.lim, bL_lim]; done))⟩ ?_
    rintro ⟨k, o, p⟩ ⟨k0, hK⟩
    simp only at k0 hK
    have hob2 := hK.bd
    have hpl2 := hK.len
    have hat := hK.at_
    have hio : i < o.length := (List.getElem?_eq_some_iff.1 hat).1
    have hgv : geti o (((i : Nat) : Int).toNat : Nat) = v := by
      rw [Int.toNat_natCast]; simp [geti, List.getD_eq_getElem?_getD, hat]
    by_cases hk : k < (nearL E v).length
    · obtain ⟨u, eu⟩ : ∃ u, u = geti (nearL E v) (((k : Nat) : Int).toNat : Nat) := ⟨_, rfl⟩
      have eu2 : (nearL E v)[k]? = some u := by
        rw [eu, Int.toNat_natCast]; simp [geti, List.getD_eq_getElem?_getD, List.getElem?_eq_getElem hk]
      have hum : u ∈ nearL E v := List.mem_of_getElem? eu2
      obtain ⟨u0, _, _⟩ := hnl u hum
      have et : (nearL E v).take (k + 1) = (nearL E v).take k ++ [u] := by rw [List.take_add_one, eu2]; rfl
      have hdn : ∀ x ∈ (nearL E v).take k, x ∈ nearL E v := fun x hx => List.mem_of_mem_take hx
      have hud : u ∉ (nearL E v).take k := fun hx => by
        obtain ⟨j, hj, ej⟩ := List.mem_take_iff_getElem.1 hx
        have e1 : (nearL E v)[j]? = some u := by rw [List.getElem?_eq_getElem (by omega), ej]
        have := nd_get hnd e1 eu2
        omega
      have hskip := fun hu => hK.skip (u := u) hu
      have hpush := fun hu => hK.push hF hdn hum hud hu
      rw [← et] at hskip hpush
      generalize nearL E v = nv at *
      by_cases hup : u = geti p v
      · have hq := hskip hup
        have hup' : geti nv (((k : Nat) : Int).toNat : Nat) = geti p ((geti o (((i : Nat) : Int).toNat : Nat)).toNat : Nat) := by rw [hgv, Int.toNat_of_nonneg hvr.1, ← eu]; exact hup
        repeat' (first | (apply AOps.nil; try simp only [List.nil_append, List.cons_append, List.set_cons_zero, List.set_cons_succ, List.length_cons, List.length_nil, Nat.reduceAdd, AV.sh, AV.sh1, AV.sh0, AO.sh, List.map_cons, List.map_nil, Nat.zero_add, Nat.add_zero, setAll]) | (apply w_move; exact rfl; exact rfl) | apply AWp.seq | apply AWp.region | ((apply AWp.condP; exact rfl) <;> intro h) | apply AWp.block | apply AWp.exit | apply AWp.skip | (apply w_len; exact rfl; exact rfl; first | exact .ints _ | exact .intss _ | exact .sli rfl | exact .sls rfl | exact .slr rfl | exact .orow rfl | exact .nil) | omega | ((apply w_lss); iterate 3 exact rfl))
        refine AWp.regionQ (by kernel_rfl) (by kernel_rfl) ?_
        repeat' (first | (apply AOps.nil; try simp only [List.nil_append, List.cons_append, List.set_cons_zero, List.set_cons_succ, List.length_cons, List.length_nil, Nat.reduceAdd, AV.sh, AV.sh1, AV.sh0, AO.sh, List.map_cons, List.map_nil, Nat.zero_add, Nat.add_zero, setAll]) | (apply w_move; exact rfl; exact rfl) | (apply w_assign; exact rfl; exact rfl) | apply AWp.seq | apply AWp.region | ((apply AWp.condP; exact rfl) <;> intro h) | apply AWp.skip | omega | ((first | apply w_neq | apply w_add | apply w_idx | apply w_ld); iterate 3 exact rfl) | (apply w_idxo; exact rfl; exact rfl; (exact .sli rfl); exact rfl) | (apply w_ldo; iterate 4 exact rfl) | (apply inI_of <;> omega))
        all_goals try (exfalso; first | exact absurd hup' (by assumption) | exact absurd (by assumption) hup')
        exact ⟨(k + 1, o, p), ⟨by simp only; omega, hq⟩, by simp only; omega, ⟨lee rfl (by (repeat (first | exact le_nil | refine le_eq rfl rfl ?_))), by (repeat (first | exact lo_nil | refine lo_eq rfl ?_)), rfl, (by first | exact rfl | (simp [AO.lim, AV.lim, bL_lim]; done))⟩⟩
      · have hq := hpush hup
        have hup' : ¬ geti nv (((k : Nat) : Int).toNat : Nat) = geti p ((geti o (((i : Nat) : Int).toNat : Nat)).toNat : Nat) := by rw [hgv, Int.toNat_of_nonneg hvr.1, ← eu]; exact hup
        have hbl : (o.length + [u].length) * 8 ≤ 140737488355328 := by
          simp only [List.length_cons, List.length_nil]; omega
        repeat' (first | (apply AOps.nil; try simp only [List.nil_append, List.cons_append, List.set_cons_zero, List.set_cons_succ, List.length_cons, List.length_nil, Nat.reduceAdd, AV.sh, AV.sh1, AV.sh0, AO.sh, List.map_cons, List.map_nil, Nat.zero_add, Nat.add_zero, setAll]) | (apply w_move; exact rfl; exact rfl) | apply AWp.seq | apply AWp.region | ((apply AWp.condP; exact rfl) <;> intro h) | apply AWp.block | apply AWp.exit | apply AWp.skip | (apply w_len; exact rfl; exact rfl; first | exact .ints _ | exact .intss _ | exact .sli rfl | exact .sls rfl | exact .slr rfl | exact .orow rfl | exact .nil) | omega | ((apply w_lss); iterate 3 exact rfl))
        refine AWp.regionQ (by kernel_rfl) (by kernel_rfl) ?_
        repeat' (first | (apply AOps.nil; try simp only [List.nil_append, List.cons_append, List.set_cons_zero, List.set_cons_succ, List.length_cons, List.length_nil, Nat.reduceAdd, AV.sh, AV.sh1, AV.sh0, AO.sh, List.map_cons, List.map_nil, Nat.zero_add, Nat.add_zero, setAll]) | (apply w_move; exact rfl; exact rfl) | apply AWp.seq | apply AWp.region | ((apply AWp.condP; exact rfl) <;> intro h) | apply AWp.skip | omega | ((first | apply w_neq | apply w_idx | apply w_ld); iterate 3 exact rfl) | (apply w_idxo; exact rfl; exact rfl; (exact .sli rfl); exact rfl) | (apply w_ldo; iterate 4 exact rfl))
        all_goals try (exfalso; first | exact absurd hup' (by assumption) | exact absurd (by assumption) hup')
        refine AWp.regionG [] (by kernel_rfl) (envC := ⟨74, [(2, .optr 1 0), (6, .own 2), (8, .own 3), (9, .i i), (10, .own 4), (11, .i k)]⟩) (osC := [.keep 1 K, .bx 29 [.ints W, .intss E], .sli 2 (p.set u.toNat v), .sli 2 o, .sli 2 nv]) rfl (by first | exact rfl | (simp [AO.lim, AV.lim, bL_lim]; done)) ?_ ?_
        · rw [eu] at u0 ⊢
          rw [← hgv] at hvr ⊢
          repeat' (first | (apply AOps.nil; try simp only [List.nil_append, List.cons_append, List.set_cons_zero, List.set_cons_succ, List.length_cons, List.length_nil, Nat.reduceAdd, AV.sh, AV.sh1, AV.sh0, AO.sh, List.map_cons, List.map_nil, Nat.zero_add, Nat.add_zero, setAll]) | (apply w_move; exact rfl; exact rfl) | apply AllOfG.nil | (apply AllOfG.consS; exact rfl; exact rfl) | (apply AAnyG.takeW; exact rfl; exact rfl; kernel_rfl; kernel_rfl) | (apply AAnyG.takeL; exact rfl; exact rfl; kernel_rfl) | (apply AAnyG.all; exact rfl) | (apply AAnyG.done; exact rfl) | omega | (apply w_idxo; exact rfl; exact rfl; (exact .sli rfl); exact rfl) | (apply w_ldo; iterate 4 exact rfl) | (apply w_sti; exact rfl; exact rfl; rotate_left 1; exact rfl; rotate_left 2) | (apply inI_of <;> omega))
          all_goals (apply Or.inl; refine ⟨lee rfl ?_, ?_, rfl, (by first | exact rfl | (simp [AO.lim, AV.lim, bL_lim]; done))⟩; (focus ((repeat (first | exact le_nil | refine le_eq rfl rfl ?_)); done)); (focus ((repeat (first | exact lo_nil | refine lo_eq rfl ?_)); done)))
        generalize p.set u.toNat v = p' at *
        repeat' (first | (apply AOps.nil; try simp only [List.nil_append, List.cons_append, List.set_cons_zero, List.set_cons_succ, List.length_cons, List.length_nil, Nat.reduceAdd, AV.sh, AV.sh1, AV.sh0, AO.sh, List.map_cons, List.map_nil, Nat.zero_add, Nat.add_zero, setAll]) | (apply w_move; exact rfl; exact rfl) | (apply w_assign; exact rfl; exact rfl) | apply AWp.region | omega | ((first | apply w_add | apply w_idx | apply w_ld); iterate 3 exact rfl) | ((apply w_bs1); iterate 2 exact rfl) | (apply w_idxo; exact rfl; exact rfl; (exact .sli rfl); exact rfl) | (apply w_ldo; iterate 4 exact rfl) | (apply w_app; exact rfl; exact rfl; exact rfl; exact rfl; (exact .sli rfl); rotate_left 1; simp only [Env.mp, List.map_cons, List.map_nil, List.set_cons_zero, List.set_cons_succ, AV.kill, AV.kill1, AO.kill, AV.noRow, AV.noRow1, AO.via, reduceIte, Nat.reduceEqDiff, Nat.reduceLT, Env.up, Nat.zero_ne_one, Nat.one_ne_zero, Nat.reduceAdd, List.cons_append, List.nil_append]; rotate_left 1) | (apply inI_of <;> omega))
        rw [eu] at hbl u0
        repeat' (apply AOps.nil; try simp only [List.nil_append, List.cons_append, List.set_cons_zero, List.set_cons_succ, List.length_cons, List.length_nil, Nat.reduceAdd, AV.sh, AV.sh1, AV.sh0, AO.sh, List.map_cons, List.map_nil, Nat.zero_add, Nat.add_zero, setAll])
        exact ⟨(k + 1, o ++ [u], p'), ⟨by simp only; omega, hq⟩, by simp only; omega, by rw [eu]; exact ⟨lee rfl (by (repeat (first | exact le_nil | refine le_eq rfl rfl ?_))), by (repeat (first | exact lo_nil | refine lo_eq rfl ?_)), rfl, (by first | exact rfl | (simp [AO.lim, AV.lim, bL_lim]; done))⟩⟩
    · have ek : k = (nearL E v).length := by omega
      subst ek
      rw [List.take_length] at hK
      have hout := hK.out
      repeat' (first | (apply AOps.nil; try simp only [List.nil_append, List.cons_append, List.set_cons_zero, List.set_cons_succ, List.length_cons, List.length_nil, Nat.reduceAdd, AV.sh, AV.sh1, AV.sh0, AO.sh, List.map_cons, List.map_nil, Nat.zero_add, Nat.add_zero, setAll]) | (apply w_move; exact rfl; exact rfl) | (apply w_assign; exact rfl; exact rfl) | apply AWp.seq | apply AWp.region | ((apply AWp.condP; exact rfl) <;> intro h) | apply AWp.block | apply AWp.exit | apply AWp.skip | (apply w_len; exact rfl; exact rfl; first | exact .ints _ | exact .intss _ | exact .sli rfl | exact .sls rfl | exact .slr rfl | exact .orow rfl | exact .nil) | omega | ((first | apply w_lss | apply w_add); iterate 3 exact rfl) | (apply inI_of <;> omega))
      exact ⟨(i + 1, o, p), hout, by simp only; omega, ⟨lee rfl (by (repeat (first | exact le_nil | refine le_eq rfl rfl ?_))), by (repeat (first | exact lo_nil | refine lo_eq rfl ?_)), rfl, (by first | exact rfl | (simp [AO.lim, AV.lim, bL_lim]; done))⟩⟩
  · have ei : i = o.length := by omega
    subst ei
    repeat' (first | (apply AOps.nil; try simp only [List.nil_append, List.cons_append, List.set_cons_zero, List.set_cons_succ, List.length_cons, List.length_nil, Nat.reduceAdd, AV.sh, AV.sh1, AV.sh0, AO.sh, List.map_cons, List.map_nil, Nat.zero_add, Nat.add_zero, setAll]) | (apply w_move; exact rfl; exact rfl) | (apply w_assign; exact rfl; exact rfl) | apply AWp.seq | apply AWp.region | ((apply AWp.condP; exact rfl) <;> intro h) | apply AWp.block | apply AWp.ret | apply AWp.exit | apply AWp.skip | (apply w_len; exact rfl; exact rfl; first | exact .ints _ | exact .intss _ | exact .sli rfl | exact .sls rfl | exact .slr rfl | exact .orow rfl | exact .nil) | omega | ((apply w_lss); iterate 3 exact rfl))
    refine ⟨⟨74, [(4, .own 1), (5, .own 2)]⟩, [.sli 2 o, .sli 2 p], .tup [.own 0, .own 1], Turns.or ?_, ResIs.a2 rfl rfl rfl, all_cons' trivial (all_cons' trivial all_nil'), ⟨rfl, o, p, hI, rfl⟩, all_cons' trivial (all_cons' trivial all_nil')⟩
    (apply Or.inr; refine ⟨[0, 3, 2], ⟨by decide, fun x hx => Nat.lt_of_lt_of_le ((by decide : ∀ x ∈ ([0, 3, 2] : List Nat), x < 4) x hx) (Nat.le_of_ble_eq_true rfl)⟩, lee rfl ?_, ?_, rfl, (by first | exact rfl | (simp [AO.lim, AV.lim, bL_lim]; done))⟩; (focus ((repeat (first | exact le_nil | refine le_eq rfl rfl ?_)); done)); (focus ((repeat (first | exact lo_nil | refine lo_eq rfl ?_)); done)))
end Go.Proofs.Ytbalbiliejjnoaa
/-
  Numbers of components, walked: the reference. Condition: a forest of at most 40 vertices.
-/
namespace Go.Proofs.Ytbalbiliejjnoaa
open Go Go.RowKit
attribute [local irreducible] AWp AOps ResIs Ret1 QOp LOp COp AFnV AFn Imms LeE LeO
set_option maxHeartbeats 1000000
set_option linter.unusedSimpArgs false
set_option linter.unusedVariables false

theorem l01Index_at (L : List Int) (p : Int) (j0 : Nat) (hl : L.length ≤ 1000000) (h0 : j0 < L.length) (h1 : geti L (j0 : Nat) = p) (h2 : ∀ j : Nat, j < j0 → geti L (j : Nat) ≠ p) : AFnV Try.prog 45 [.ints L, .i p] (.int .i64 j0) := by
  (refine AFnV.start Try.func45 Try.ntmps45 rfl (by kernel_rfl) fun hk => ?_; simp only [Env.start, enumF, List.length_cons, List.length_nil, Nat.reduceAdd, Nat.reduceSub, List.cons_append, List.nil_append])
  repeat' (first | (apply AOps.nil; try simp only [List.nil_append, List.cons_append, List.set_cons_zero, List.set_cons_succ, List.length_cons, List.length_nil, Nat.reduceAdd, AV.sh, AV.sh1, AV.sh0, AO.sh, List.map_cons, List.map_nil, Nat.zero_add, Nat.add_zero, setAll]) | (apply w_assign; exact rfl; exact rfl) | apply AWp.seq | apply AWp.region | apply AWp.block)
  refine AWp.loop (ι := Nat) (fun i => ⟨19, [(0, .ints L), (1, .i p), (5, .i i)]⟩) (fun _ => []) (fun i => i ≤ j0) (fun i => j0 - i) 0 (by omega) ⟨lee rfl (by (repeat (first | exact le_nil | refine le_eq rfl rfl ?_))), by (repeat (exact lo_nil)), rfl, rfl⟩ ?_
  intro i i0
  by_cases e : i = j0
  · subst e
    repeat' (first | (apply AOps.nil; try simp only [List.nil_append, List.cons_append, List.set_cons_zero, List.set_cons_succ, List.length_cons, List.length_nil, Nat.reduceAdd, AV.sh, AV.sh1, AV.sh0, AO.sh, List.map_cons, List.map_nil, Nat.zero_add, Nat.add_zero, setAll]) | (apply w_move; exact rfl; exact rfl) | (apply w_assign; exact rfl; exact rfl) | apply AWp.seq | apply AWp.region | ((apply AWp.condP; exact rfl) <;> intro h) | apply AWp.block | apply AWp.ret | apply AWp.exit | apply AWp.skip | (apply w_len; exact rfl; exact rfl; first | exact .ints _ | exact .intss _ | exact .sli rfl | exact .sls rfl | exact .slr rfl | exact .orow rfl | exact .nil) | omega | ((first | apply w_lss | apply w_eql | apply w_idx | apply w_ld); iterate 3 exact rfl))
    exact .int Try.results45 rfl rfl
  · have := h2 i (by omega)
    repeat' (first | (apply AOps.nil; try simp only [List.nil_append, List.cons_append, List.set_cons_zero, List.set_cons_succ, List.length_cons, List.length_nil, Nat.reduceAdd, AV.sh, AV.sh1, AV.sh0, AO.sh, List.map_cons, List.map_nil, Nat.zero_add, Nat.add_zero, setAll]) | (apply w_move; exact rfl; exact rfl) | (apply w_assign; exact rfl; exact rfl) | apply AWp.seq | apply AWp.region | ((apply AWp.condP; exact rfl) <;> intro h) | apply AWp.block | apply AWp.ret | apply AWp.exit | apply AWp.skip | (apply w_len; exact rfl; exact rfl; first | exact .ints _ | exact .intss _ | exact .sli rfl | exact .sls rfl | exact .slr rfl | exact .orow rfl | exact .nil) | omega | ((first | apply w_lss | apply w_eql | apply w_add | apply w_idx | apply w_ld); iterate 3 exact rfl) | (apply inI_of <;> omega))
    exact ⟨i + 1, by omega, by omega, ⟨lee rfl (by (repeat (first | exact le_nil | refine le_eq rfl rfl ?_))), by (repeat (exact lo_nil)), rfl, rfl⟩⟩

set_option maxHeartbeats 16000000 in
theorem l11Labels_c (W : List Int) (E : List (List Int)) (h : GrF W E) : AFn Try.prog 44 [.agg [.ints W, .intss E]] (IsInts 2 (labS W.length (nearL E) W.length)) := by
  have hn := h.n
  have hF := h.fo.fst
  have hord := l11Order_c W E h
  have hstart := LbI.start (near := nearL E) (n := W.length) (by omega)
  (refine AFn.start Try.func44 Try.ntmps44 rfl (by kernel_rfl) fun hk => ?_; simp only [Env.start, enumF, List.length_cons, List.length_nil, Nat.reduceAdd, Nat.reduceSub, List.cons_append, List.nil_append])
  repeat' (first | (apply AOps.nil; try simp only [List.nil_append, List.cons_append, List.set_cons_zero, List.set_cons_succ, List.length_cons, List.length_nil, Nat.reduceAdd, AV.sh, AV.sh1, AV.sh0, AO.sh, List.map_cons, List.map_nil, Nat.zero_add, Nat.add_zero, setAll]) | (apply w_assign; exact rfl; exact rfl) | apply AWp.seq | apply AWp.region | apply AWp.block | ((apply w_boxa); iterate 2 exact rfl) | (apply w_bs0; iterate 1 exact rfl))
  refine AWp.loop (ι := Nat) (fun i => ⟨54, [(1, .optr 0 0), (3, .own 1), (4, .i 0), (5, .i i)]⟩) (fun i => [.bx 29 [.ints W, .intss E], .sli 2 (List.replicate i (-1))]) (fun i => i ≤ W.length) (fun i => W.length - i) 0 (by omega) ⟨lee rfl (by (repeat (first | exact le_nil | refine le_eq rfl rfl ?_))), by (repeat (first | exact lo_nil | refine lo_eq rfl ?_)), rfl, rfl⟩ ?_
  intro i i0
  have hrl : (List.replicate i (-1 : Int)).length = i := List.length_replicate
  have hrs : List.replicate (i + 1) (-1 : Int) = List.replicate i (-1) ++ [-1] := List.replicate_succ'
  by_cases hi : i < W.length
  · have hbl : ((List.replicate i (-1 : Int)).length + [(-1 : Int)].length) * 8 ≤ 140737488355328 := by
      simp only [List.length_cons, List.length_nil]; omega
    generalize List.replicate i (-1 : Int) = L at *
    repeat' (first | (apply AOps.nil; try simp only [List.nil_append, List.cons_append, List.set_cons_zero, List.set_cons_succ, List.length_cons, List.length_nil, Nat.reduceAdd, AV.sh, AV.sh1, AV.sh0, AO.sh, List.map_cons, List.map_nil, Nat.zero_add, Nat.add_zero, setAll]) | (apply w_move; exact rfl; exact rfl) | (apply w_assign; exact rfl; exact rfl) | apply AWp.seq | apply AWp.region | ((apply AWp.condP; exact rfl) <;> intro h) | apply AWp.block | apply AWp.exit | apply AWp.skip | (apply w_len; exact rfl; exact rfl; first | exact .ints _ | exact .intss _ | exact .sli rfl | exact .sls rfl | exact .slr rfl | exact .orow rfl | exact .nil) | omega | ((first | apply w_lss | apply w_add | apply w_ld | apply w_fa); iterate 3 exact rfl) | ((apply w_bs1); iterate 2 exact rfl) | (apply w_ldb; iterate 5 exact rfl) | (apply w_app; exact rfl; exact rfl; exact rfl; exact rfl; (exact .sli rfl); rotate_left 1; simp only [Env.mp, List.map_cons, List.map_nil, List.set_cons_zero, List.set_cons_succ, AV.kill, AV.kill1, AO.kill, AV.noRow, AV.noRow1, AO.via, reduceIte, Nat.reduceEqDiff, Nat.reduceLT, Env.up, Nat.zero_ne_one, Nat.one_ne_zero, Nat.reduceAdd, List.cons_append, List.nil_append]; rotate_left 1) | (apply inI_of <;> omega))
    exact ⟨i + 1, by omega, by omega, ⟨lee rfl (by (repeat (first | exact le_nil | refine le_eq rfl rfl ?_))), by (repeat (first | exact lo_nil | refine lo_eq rfl ?_ | refine lo_eq (congrArg (AO.sli _) (hrs.symm)) ?_)), rfl, rfl⟩⟩
  have ei : i = W.length := by omega
  subst ei
  repeat' (first | (apply AOps.nil; try simp only [List.nil_append, List.cons_append, List.set_cons_zero, List.set_cons_succ, List.length_cons, List.length_nil, Nat.reduceAdd, AV.sh, AV.sh1, AV.sh0, AO.sh, List.map_cons, List.map_nil, Nat.zero_add, Nat.add_zero, setAll]) | (apply w_move; exact rfl; exact rfl) | (apply w_assign; exact rfl; exact rfl) | apply AWp.seq | apply AWp.region | ((apply AWp.condP; exact rfl) <;> intro h) | apply AWp.block | apply AWp.exit | apply AWp.skip | (apply w_len; exact rfl; exact rfl; first | exact .ints _ | exact .intss _ | exact .sli rfl | exact .sls rfl | exact .slr rfl | exact .orow rfl | exact .nil) | omega | ((first | apply w_lss | apply w_ld | apply w_fa); iterate 3 exact rfl) | (apply w_ldb; iterate 5 exact rfl))
  refine AWp.loop (ι := Nat × List Int × Int) (fun x => ⟨54, [(1, .optr 0 0), (3, .own 1), (4, .i x.2.2), (6, .i x.1)]⟩) (fun x => [.bx 29 [.ints W, .intss E], .sli 2 x.2.1]) (fun x => x.1 ≤ W.length ∧ LbI W.length (nearL E) x.1 x.2.1 x.2.2 ∧ x.2.1 = labS W.length (nearL E) x.1) (fun x => W.length - x.1) (0, List.replicate W.length (-1), 0) ⟨by simp only; omega, hstart, rfl⟩ ⟨lee rfl (by (repeat (first | exact le_nil | refine le_eq rfl rfl ?_))), by (repeat (first | exact lo_nil | refine lo_eq rfl ?_)), rfl, rfl⟩ ?_
  rintro ⟨i, L, m⟩ ⟨i1, hI, hS⟩
  simp only at i1 hI hS
  have hl := hI.len
  by_cases hi2 : i < W.length
  · have hmn : 0 ≤ m := by rw [hI.num]; omega
    by_cases hc : 0 ≤ geti L (i : Nat)
    · have hsk := hI.skip hi2 hc
      have hsk2 := labS_skip hI hi2 hc hS
      have hc' : 0 ≤ geti L (((i : Nat) : Int).toNat : Nat) := by rw [Int.toNat_natCast]; exact hc
      repeat' (first | (apply AOps.nil; try simp only [List.nil_append, List.cons_append, List.set_cons_zero, List.set_cons_succ, List.length_cons, List.length_nil, Nat.reduceAdd, AV.sh, AV.sh1, AV.sh0, AO.sh, List.map_cons, List.map_nil, Nat.zero_add, Nat.add_zero, setAll]) | (apply w_move; exact rfl; exact rfl) | (apply w_assign; exact rfl; exact rfl) | apply AWp.seq | apply AWp.region | ((apply AWp.condP; exact rfl) <;> intro h) | apply AWp.block | apply AWp.ret | apply AWp.exit | apply AWp.skip | (apply w_len; exact rfl; exact rfl; first | exact .ints _ | exact .intss _ | exact .sli rfl | exact .sls rfl | exact .slr rfl | exact .orow rfl | exact .nil) | omega | ((first | apply w_lss | apply w_geq | apply w_add | apply w_idx | apply w_ld); iterate 3 exact rfl) | (apply w_idxo; exact rfl; exact rfl; (exact .sli rfl); exact rfl) | (apply w_ldo; iterate 4 exact rfl) | (apply inI_of <;> omega))
      all_goals try (exfalso; omega)
      exact ⟨(i + 1, L, m), ⟨by simp only; omega, hsk, hsk2⟩, by simp only; omega, ⟨lee rfl (by (repeat (first | exact le_nil | refine le_eq rfl rfl ?_))), by (repeat (first | exact lo_nil | refine lo_eq rfl ?_)), rfl, rfl⟩⟩
    · have hc' : ¬ 0 ≤ geti L (((i : Nat) : Int).toNat : Nat) := by rw [Int.toNat_natCast]; exact hc
      have hor := hord (i : Nat) ⟨by omega, by omega⟩
      repeat' (first | (apply AOps.nil; try simp only [List.nil_append, List.cons_append, List.set_cons_zero, List.set_cons_succ, List.length_cons, List.length_nil, Nat.reduceAdd, AV.sh, AV.sh1, AV.sh0, AO.sh, List.map_cons, List.map_nil, Nat.zero_add, Nat.add_zero, setAll]) | (apply w_move; exact rfl; exact rfl) | (apply w_assign; exact rfl; exact rfl) | apply AWp.seq | apply AWp.region | ((apply AWp.condP; exact rfl) <;> intro h) | apply AWp.block | apply AWp.ret | apply AWp.exit | apply AWp.skip | (apply w_len; exact rfl; exact rfl; first | exact .ints _ | exact .intss _ | exact .sli rfl | exact .sls rfl | exact .slr rfl | exact .orow rfl | exact .nil) | (apply w_callc [] (hor); exact rfl; (exact handed0); (focus ((repeat (first | exact imu_nil | refine imu_cons rfl (imu_agg2 (.ints _) (.intss _)) ?_ | refine imu_cons rfl (.val _) ?_)); done)); rintro r os0 ⟨rfl, o, p, htr, rfl⟩; try simp only [List.nil_append, List.cons_append, List.set_cons_zero, List.set_cons_succ, List.length_cons, List.length_nil, Nat.reduceAdd, AV.sh, AV.sh1, AV.sh0, AO.sh, List.map_cons, List.map_nil, Nat.zero_add, Nat.add_zero, setAll]) | omega | ((first | apply w_lss | apply w_geq | apply w_idx | apply w_ld | apply w_extv); iterate 3 exact rfl) | ((first | apply w_idxs | apply w_lds | apply w_ext); iterate 3 exact rfl) | (apply w_idxo; exact rfl; exact rfl; (exact .sli rfl); exact rfl) | (apply w_ldo; iterate 4 exact rfl) | (apply w_ldst; iterate 5 exact rfl))
      all_goals try (exfalso; omega)
      obtain ⟨hnew, hmlt⟩ := hI.new hF hi2 hc htr
      have hnew2 := labS_new hF hI hi2 hc htr hS
      have hol := htr.bd
      have hor' := htr.rng
      refine AWp.loop (ι := Nat) (fun j => ⟨54, [(1, .optr 0 0), (3, .own 1), (4, .i m), (6, .i i), (7, .own 2), (9, .i j)]⟩) (fun j => [.bx 29 [.ints W, .intss E], .sli 2 (setT L (o.take j) m), .sli 2 o]) (fun j => j ≤ o.length) (fun j => o.length - j) 0 (by omega) ⟨lee rfl (by (repeat (first | exact le_nil | refine le_eq rfl rfl ?_))), by (repeat (first | exact lo_nil | refine lo_eq rfl ?_)), rfl, rfl⟩ ?_
      intro j j0
      have hsl := setT_len m (o.take j) L
      by_cases hj : j < o.length
      · obtain ⟨x, ex⟩ : ∃ x, x = geti o (((j : Nat) : Int).toNat : Nat) := ⟨_, rfl⟩
        have ex2 : o[j]? = some x := by
          rw [ex, Int.toNat_natCast]; simp [geti, List.getD_eq_getElem?_getD, List.getElem?_eq_getElem hj]
        have hxr := hor' x (List.mem_of_getElem? ex2)
        have et : setT L (o.take (j + 1)) m = (setT L (o.take j) m).set x.toNat m := by
          rw [List.take_add_one, ex2]; exact setT_snoc L (o.take j) x m
        generalize setT L (o.take j) m = M at *
        rw [ex] at hxr et
        repeat' (first | (apply AOps.nil; try simp only [List.nil_append, List.cons_append, List.set_cons_zero, List.set_cons_succ, List.length_cons, List.length_nil, Nat.reduceAdd, AV.sh, AV.sh1, AV.sh0, AO.sh, List.map_cons, List.map_nil, Nat.zero_add, Nat.add_zero, setAll]) | (apply w_move; exact rfl; exact rfl) | (apply w_assign; exact rfl; exact rfl) | apply AWp.seq | apply AWp.region | ((apply AWp.condP; exact rfl) <;> intro h) | apply AWp.block | apply AWp.exit | apply AWp.skip | (apply w_len; exact rfl; exact rfl; first | exact .ints _ | exact .intss _ | exact .sli rfl | exact .sls rfl | exact .slr rfl | exact .orow rfl | exact .nil) | omega | ((first | apply w_lss | apply w_add | apply w_idx | apply w_ld); iterate 3 exact rfl) | (apply w_idxo; exact rfl; exact rfl; (exact .sli rfl); exact rfl) | (apply w_ldo; iterate 4 exact rfl) | (apply w_sti; exact rfl; exact rfl; rotate_left 1; exact rfl; rotate_left 2) | (apply inI_of <;> omega))
        exact ⟨j + 1, by omega, by omega, ⟨lee rfl (by (repeat (first | exact le_nil | refine le_eq rfl rfl ?_))), by (repeat (first | exact lo_nil | refine lo_eq rfl ?_ | refine lo_eq (congrArg (AO.sli _) (et.symm)) ?_)), rfl, rfl⟩⟩
      · have ej : j = o.length := by omega
        subst ej
        rw [List.take_length]
        repeat' (first | (apply AOps.nil; try simp only [List.nil_append, List.cons_append, List.set_cons_zero, List.set_cons_succ, List.length_cons, List.length_nil, Nat.reduceAdd, AV.sh, AV.sh1, AV.sh0, AO.sh, List.map_cons, List.map_nil, Nat.zero_add, Nat.add_zero, setAll]) | (apply w_move; exact rfl; exact rfl) | (apply w_assign; exact rfl; exact rfl) | apply AWp.seq | apply AWp.region | ((apply AWp.condP; exact rfl) <;> intro h) | apply AWp.block | apply AWp.exit | apply AWp.skip | (apply w_len; exact rfl; exact rfl; first | exact .ints _ | exact .intss _ | exact .sli rfl | exact .sls rfl | exact .slr rfl | exact .orow rfl | exact .nil) | omega | ((first | apply w_lss | apply w_add); iterate 3 exact rfl) | (apply inI_of <;> omega))
        exact ⟨(i + 1, setT L o m, m + 1), ⟨by simp only; omega, hnew, hnew2⟩, by simp only; omega, ⟨lee rfl (by (repeat (first | exact le_nil | refine le_eq rfl rfl ?_))), by (repeat (first | exact lo_nil | refine lo_eq rfl ?_)), rfl, rfl⟩⟩
  · have ei : i = W.length := by omega
    subst ei
    repeat' (first | (apply AOps.nil; try simp only [List.nil_append, List.cons_append, List.set_cons_zero, List.set_cons_succ, List.length_cons, List.length_nil, Nat.reduceAdd, AV.sh, AV.sh1, AV.sh0, AO.sh, List.map_cons, List.map_nil, Nat.zero_add, Nat.add_zero, setAll]) | (apply w_move; exact rfl; exact rfl) | (apply w_assign; exact rfl; exact rfl) | apply AWp.seq | apply AWp.region | ((apply AWp.condP; exact rfl) <;> intro h) | apply AWp.block | apply AWp.ret | apply AWp.exit | apply AWp.skip | (apply w_len; exact rfl; exact rfl; first | exact .ints _ | exact .intss _ | exact .sli rfl | exact .sls rfl | exact .slr rfl | exact .orow rfl | exact .nil) | omega | ((apply w_lss); iterate 3 exact rfl))
    exact ⟨_, _, _, .v1 Try.results44 rfl, .sli rfl, rfl, by rw [hS]⟩
theorem labS_ok {n : Nat} {near : Int → List Int} (hF : Fst n near) (hn : 0 < n) : ∀ i, i ≤ n → ∃ m, LbI n near i (labS n near i) m
  | 0, _ => ⟨0, LbI.start hn⟩
  | i + 1, hi => by
    obtain ⟨m, h⟩ := labS_ok hF hn i (by omega)
    by_cases hc : 0 ≤ geti (labS n near i) (i : Nat)
    · rw [← labS_skip h (by omega) hc rfl]; exact ⟨m, h.skip (by omega) hc⟩
    · have hT := trC_ok hF (r := (i : Nat)) ⟨by omega, by omega⟩
      rw [← labS_new hF h (by omega) hc hT rfl]; exact ⟨m + 1, (h.new hF (by omega) hc hT).1⟩
/-- The index of a number: that of the root. -/
theorem index_root (W : List Int) (E : List (List Int)) (h : GrF W E) (v : Nat) (hv : v < W.length) :
    ∃ j : Nat, j ≤ v ∧ (j = v ↔ (v : Int) ∈ rts W.length (nearL E) W.length) ∧ AFnV Try.prog 45 [.ints (labS W.length (nearL E) W.length), .i (geti (labS W.length (nearL E) W.length) (v : Nat))] (.int .i64 j) := by
  obtain ⟨m, hL⟩ := labS_ok h.fo.fst (by have := h.n; omega) W.length (Nat.le_refl _)
  have hn := h.n
  have hlen := hL.len
  have hf := hL.first h.fo.fst hv
  by_cases hr : (v : Int) ∈ rts W.length (nearL E) W.length
  · exact ⟨v, Nat.le_refl _, ⟨fun _ => hr, fun _ => rfl⟩, l01Index_at _ _ v (by omega) (by omega) rfl (hf.2 hr)⟩
  · have hex : ∃ j : Nat, j < v ∧ geti (labS W.length (nearL E) W.length) (j : Nat) = geti (labS W.length (nearL E) W.length) (v : Nat) := by
      apply Classical.byContradiction
      intro hn2
      exact hr (hf.1 fun j hj he => hn2 ⟨j, hj, he⟩)
    have key : ∀ k : Nat, k ≤ v → (∃ j : Nat, j < k ∧ geti (labS W.length (nearL E) W.length) (j : Nat) = geti (labS W.length (nearL E) W.length) (v : Nat)) → ∃ j : Nat, j < k ∧ geti (labS W.length (nearL E) W.length) (j : Nat) = geti (labS W.length (nearL E) W.length) (v : Nat) ∧ ∀ q : Nat, q < j → geti (labS W.length (nearL E) W.length) (q : Nat) ≠ geti (labS W.length (nearL E) W.length) (v : Nat) := by
      intro k
      induction k with
      | zero => rintro _ ⟨j, hj, _⟩; omega
      | succ k ih =>
        intro hk hex
        by_cases h2 : ∃ j : Nat, j < k ∧ geti (labS W.length (nearL E) W.length) (j : Nat) = geti (labS W.length (nearL E) W.length) (v : Nat)
        · obtain ⟨j, j1, j2, j3⟩ := ih (by omega) h2
          exact ⟨j, by omega, j2, j3⟩
        · obtain ⟨j, j1, j2⟩ := hex
          have : j = k := Classical.byContradiction fun hne => h2 ⟨j, by omega, j2⟩
          subst this
          exact ⟨j, by omega, j2, fun q hq he => h2 ⟨q, hq, he⟩⟩
    obtain ⟨j, j1, j2, j3⟩ := key v (Nat.le_refl _) hex
    exact ⟨j, by omega, ⟨fun e => by omega, fun e => absurd e hr⟩, l01Index_at _ _ j (by omega) (by omega) j2 j3⟩
end Go.Proofs.Ytbalbiliejjnoaa
