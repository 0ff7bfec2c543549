/-
  Parts of the proof, one behind the other: contracts of functions and plain laws. No condition.
-/
import Derived.Shelf.Small.Bits
import Derived.Test.YthjkpmjdkcainaaProg
import Derived.Test.YthjkpmjdkcainaaPt4FnGraphDeter
/-
  Products that are not too large, one step of a determinant, comparisons. Condition: numbers of moderate size.
-/
namespace Go.Proofs.Ythjkpmjdkcainaa
open Go Go.RowKit
attribute [local irreducible] AWp AOps ResIs Ret1 QOp LOp COp AFnV AFn Imms LeE LeO
set_option maxHeartbeats 1000000
set_option linter.unusedSimpArgs false
set_option linter.unusedVariables false

theorem abs_m (a : Int) (ha : inM a) : AFnV Try.prog 52 [.i a] (.int .i64 a.natAbs) := by
  unfold inM at ha
  (refine AFnV.start Try.func52 Try.ntmps52 rfl (by kernel_rfl) fun hk => ?_; simp only [Env.start, enumF, List.length_cons, List.length_nil, Nat.reduceAdd, Nat.reduceSub, List.cons_append, List.nil_append])
  repeat' (first | (apply AOps.nil; try simp only [List.nil_append, List.cons_append, List.set_cons_zero, List.set_cons_succ, List.length_cons, List.length_nil, Nat.reduceAdd, AV.sh, AV.sh1, AV.sh0, AO.sh, List.map_cons, List.map_nil, Nat.zero_add, Nat.add_zero, setAll]) | (apply w_move; exact rfl; exact rfl) | (apply w_assign; exact rfl; exact rfl) | apply AWp.seq | apply AWp.region | ((apply AWp.condP; exact rfl) <;> intro h) | apply AWp.ret | apply AWp.skip | ((apply w_lss); iterate 3 exact rfl) | ((apply w_neg); iterate 2 exact rfl) | (apply inI_of <;> omega))
  all_goals exact .int Try.results52 rfl (by omega)
theorem tok0 {a b : Int} (h : a = 0 ∨ b = 0) : tok a b = true := by unfold tok; exact decide_eq_true (by omega)
theorem tok_iff {a b : Int} (ha : a ≠ 0) (hb : b ≠ 0) : tok a b = decide ((a.natAbs : Int) ≤ 1000000000000 / (b.natAbs : Int)) := by
  unfold tok
  rw [Bool.eq_iff_iff, decide_eq_true_iff, decide_eq_true_iff]
  constructor
  · rintro (h | h | h)
    · exact absurd h ha
    · exact absurd h hb
    · exact h
  · exact fun h => .inr (.inr h)
def tmV (a b : Int) : Int := if tok a b = true then a * b else 0
theorem tmV_in (a b : Int) : inM (tmV a b) := by
  unfold tmV
  split
  · exact tok_in ‹_›
  · exact inM0'
where
  inM0' : inM 0 := by unfold inM; omega
theorem ResIs.intboolA {P : Program} {env : Env} {os : List AO} {fn : Func} {t u : Tmp} (h : fn.results = #[.tmp t, .tmp u]) {a a' : Int} {b b' : Bool} (ht : env.fd t = some (.i a)) (hu : env.fd u = some (.b b)) (e : a = a') (e2 : b = b') : ResIs P fn env os (.val (.tuple #[.int .i64 a', .bool b'])) := by
  subst e; subst e2; exact .vv2 h ht hu
theorem times_c (a b : Int) (ha : inM a) (hb : inM b) : AFnV Try.prog 43 [.i a, .i b] (.tuple #[.int .i64 (tmV a b), .bool (tok a b)]) := by
  have c1 := abs_m a ha
  have c2 := abs_m b hb
  unfold inM at ha hb
  by_cases h0 : a = 0 ∨ b = 0
  · have ht := tok0 h0
    have hv : tmV a b = 0 := by unfold tmV; rw [if_pos ht]; rcases h0 with h | h <;> simp [h]
    rw [ht, hv]
    (refine AFnV.start Try.func43 Try.ntmps43 rfl (by kernel_rfl) fun hk => ?_; simp only [Env.start, enumF, List.length_cons, List.length_nil, Nat.reduceAdd, Nat.reduceSub, List.cons_append, List.nil_append])
    repeat' (first | (apply AOps.nil; try simp only [List.nil_append, List.cons_append, List.set_cons_zero, List.set_cons_succ, List.length_cons, List.length_nil, Nat.reduceAdd, AV.sh, AV.sh1, AV.sh0, AO.sh, List.map_cons, List.map_nil, Nat.zero_add, Nat.add_zero, setAll]) | ((apply AOps.splitP; exact rfl; exact rfl) <;> intro h) | (apply w_move; exact rfl; exact rfl) | (apply w_assign; exact rfl; exact rfl) | apply AWp.seq | apply AWp.region | ((apply AWp.condP; exact rfl) <;> intro h) | (apply AWp.condT; exact rfl) | apply AWp.ret | apply AWp.skip | (apply w_skip; exact rfl) | (apply w_pickT; exact rfl; exact rfl; exact rfl) | (apply w_pickF; exact rfl; exact rfl; exact rfl) | (apply w_call (c1); exact rfl; exact rfl; focus ((repeat (first | exact im_nil | refine im_cons rfl (.val _) ?_)); done)) | (apply w_call (c2); exact rfl; exact rfl; focus ((repeat (first | exact im_nil | refine im_cons rfl (.val _) ?_)); done)) | omega | ((apply w_eql); iterate 3 exact rfl))
    all_goals first | exact .intboolA Try.results43 rfl rfl rfl rfl | (exfalso; simp_all; done)
  · have h1 : a ≠ 0 := fun h => h0 (.inl h)
    have h2 : b ≠ 0 := fun h => h0 (.inr h)
    have hd := Int.ediv_le_self (b := (b.natAbs : Int)) (a := 1000000000000) (by omega)
    have hd0 := Int.ediv_nonneg (a := 1000000000000) (b := (b.natAbs : Int)) (by omega) (by omega)
    by_cases ht : (a.natAbs : Int) ≤ 1000000000000 / (b.natAbs : Int)
    · have ht' : tok a b = true := by rw [tok_iff h1 h2]; exact decide_eq_true ht
      have hv : tmV a b = a * b := by unfold tmV; rw [if_pos ht']
      have hp := tok_in ht'
      unfold inM at hp
      rw [ht', hv]
      (refine AFnV.start Try.func43 Try.ntmps43 rfl (by kernel_rfl) fun hk => ?_; simp only [Env.start, enumF, List.length_cons, List.length_nil, Nat.reduceAdd, Nat.reduceSub, List.cons_append, List.nil_append])
      repeat' (first | (apply AOps.nil; try simp only [List.nil_append, List.cons_append, List.set_cons_zero, List.set_cons_succ, List.length_cons, List.length_nil, Nat.reduceAdd, AV.sh, AV.sh1, AV.sh0, AO.sh, List.map_cons, List.map_nil, Nat.zero_add, Nat.add_zero, setAll]) | ((apply AOps.splitP; exact rfl; exact rfl) <;> intro h) | (apply w_move; exact rfl; exact rfl) | (apply w_assign; exact rfl; exact rfl) | apply AWp.seq | apply AWp.region | ((apply AWp.condP; exact rfl) <;> intro h) | (apply AWp.condT; exact rfl) | apply AWp.ret | apply AWp.skip | (apply w_skip; exact rfl) | (apply w_pickT; exact rfl; exact rfl; exact rfl) | (apply w_pickF; exact rfl; exact rfl; exact rfl) | (apply w_call (c1); exact rfl; exact rfl; focus ((repeat (first | exact im_nil | refine im_cons rfl (.val _) ?_)); done)) | (apply w_call (c2); exact rfl; exact rfl; focus ((repeat (first | exact im_nil | refine im_cons rfl (.val _) ?_)); done)) | omega | ((first | apply w_gtr | apply w_eql | apply w_mul); iterate 3 exact rfl) | (apply w_quo; exact rfl; exact rfl; exact rfl; (focus (omega; done)); (focus (omega; done))) | (apply inI_of <;> omega))
      all_goals first | exact .intboolA Try.results43 rfl rfl rfl rfl | (exfalso; simp_all; done) | (exfalso; simp_all; omega)
    · have ht' : tok a b = false := by rw [tok_iff h1 h2]; exact decide_eq_false ht
      have hv : tmV a b = 0 := by unfold tmV; rw [if_neg (by rw [ht']; simp)]
      rw [ht', hv]
      (refine AFnV.start Try.func43 Try.ntmps43 rfl (by kernel_rfl) fun hk => ?_; simp only [Env.start, enumF, List.length_cons, List.length_nil, Nat.reduceAdd, Nat.reduceSub, List.cons_append, List.nil_append])
      repeat' (first | (apply AOps.nil; try simp only [List.nil_append, List.cons_append, List.set_cons_zero, List.set_cons_succ, List.length_cons, List.length_nil, Nat.reduceAdd, AV.sh, AV.sh1, AV.sh0, AO.sh, List.map_cons, List.map_nil, Nat.zero_add, Nat.add_zero, setAll]) | ((apply AOps.splitP; exact rfl; exact rfl) <;> intro h) | (apply w_move; exact rfl; exact rfl) | (apply w_assign; exact rfl; exact rfl) | apply AWp.seq | apply AWp.region | ((apply AWp.condP; exact rfl) <;> intro h) | (apply AWp.condT; exact rfl) | apply AWp.ret | apply AWp.skip | (apply w_skip; exact rfl) | (apply w_pickT; exact rfl; exact rfl; exact rfl) | (apply w_pickF; exact rfl; exact rfl; exact rfl) | (apply w_call (c1); exact rfl; exact rfl; focus ((repeat (first | exact im_nil | refine im_cons rfl (.val _) ?_)); done)) | (apply w_call (c2); exact rfl; exact rfl; focus ((repeat (first | exact im_nil | refine im_cons rfl (.val _) ?_)); done)) | omega | ((first | apply w_gtr | apply w_eql); iterate 3 exact rfl) | (apply w_quo; exact rfl; exact rfl; exact rfl; (focus (omega; done)); (focus (omega; done))) | (apply inI_of <;> omega))
      all_goals first | exact .intboolA Try.results43 rfl rfl rfl rfl | (exfalso; simp_all; done) | (exfalso; simp_all; omega)
theorem l11Times_c (a b : Int) (ha : inM a) (hb : inM b) : AFnV Try.prog 42 [.i a, .i b] (.tuple #[.int .i64 (tmV a b), .bool (tok a b)]) := by
  unfold inM at ha hb
  have ea : max a (-a) = (a.natAbs : Int) := by omega
  have eb : max b (-b) = (b.natAbs : Int) := by omega
  by_cases h0 : a = 0 ∨ b = 0
  · have ht := tok0 h0
    have hv : tmV a b = 0 := by unfold tmV; rw [if_pos ht]; rcases h0 with h | h <;> simp [h]
    rw [ht, hv]
    (refine AFnV.start Try.func42 Try.ntmps42 rfl (by kernel_rfl) fun hk => ?_; simp only [Env.start, enumF, List.length_cons, List.length_nil, Nat.reduceAdd, Nat.reduceSub, List.cons_append, List.nil_append])
    repeat' (first | (apply AOps.nil; try simp only [List.nil_append, List.cons_append, List.set_cons_zero, List.set_cons_succ, List.length_cons, List.length_nil, Nat.reduceAdd, AV.sh, AV.sh1, AV.sh0, AO.sh, List.map_cons, List.map_nil, Nat.zero_add, Nat.add_zero, setAll]) | ((apply AOps.splitP; exact rfl; exact rfl) <;> intro h) | (apply w_move; exact rfl; exact rfl) | (apply w_assign; exact rfl; exact rfl) | apply AWp.seq | apply AWp.region | ((apply AWp.condP; exact rfl) <;> intro h) | (apply AWp.condT; exact rfl) | apply AWp.ret | apply AWp.skip | (apply w_skip; exact rfl) | (apply w_pickT; exact rfl; exact rfl; exact rfl) | (apply w_pickF; exact rfl; exact rfl; exact rfl) | omega | ((apply w_eql); iterate 3 exact rfl))
    all_goals first | exact .intboolA Try.results42 rfl rfl rfl rfl | (exfalso; simp_all; done)
  · have h1 : a ≠ 0 := fun h => h0 (.inl h)
    have h2 : b ≠ 0 := fun h => h0 (.inr h)
    have hd := Int.ediv_le_self (b := (b.natAbs : Int)) (a := 1000000000000) (by omega)
    have hd0 := Int.ediv_nonneg (a := 1000000000000) (b := (b.natAbs : Int)) (by omega) (by omega)
    rw [← eb] at hd hd0
    by_cases ht : (a.natAbs : Int) ≤ 1000000000000 / (b.natAbs : Int)
    · have ht' : tok a b = true := by rw [tok_iff h1 h2]; exact decide_eq_true ht
      have hv : tmV a b = a * b := by unfold tmV; rw [if_pos ht']
      have hp := tok_in ht'
      unfold inM at hp
      rw [ht', hv]
      rw [← ea, ← eb] at ht
      (refine AFnV.start Try.func42 Try.ntmps42 rfl (by kernel_rfl) fun hk => ?_; simp only [Env.start, enumF, List.length_cons, List.length_nil, Nat.reduceAdd, Nat.reduceSub, List.cons_append, List.nil_append])
      repeat' (first | (apply AOps.nil; try simp only [List.nil_append, List.cons_append, List.set_cons_zero, List.set_cons_succ, List.length_cons, List.length_nil, Nat.reduceAdd, AV.sh, AV.sh1, AV.sh0, AO.sh, List.map_cons, List.map_nil, Nat.zero_add, Nat.add_zero, setAll]) | ((apply AOps.splitP; exact rfl; exact rfl) <;> intro h) | (apply w_move; exact rfl; exact rfl) | (apply w_assign; exact rfl; exact rfl) | apply AWp.seq | apply AWp.region | ((apply AWp.condP; exact rfl) <;> intro h) | (apply AWp.condT; exact rfl) | apply AWp.ret | apply AWp.skip | (apply w_skip; exact rfl) | (apply w_pickT; exact rfl; exact rfl; exact rfl) | (apply w_pickF; exact rfl; exact rfl; exact rfl) | omega | ((first | apply w_gtr | apply w_eql | apply w_mul | apply w_max); iterate 3 exact rfl) | (apply w_quo; exact rfl; exact rfl; exact rfl; (focus (omega; done)); (focus (omega; done))) | ((apply w_neg); iterate 2 exact rfl) | (apply inI_of <;> omega))
      all_goals first | exact .intboolA Try.results42 rfl rfl rfl rfl | (exfalso; simp_all; done) | (exfalso; simp_all; omega)
    · have ht' : tok a b = false := by rw [tok_iff h1 h2]; exact decide_eq_false ht
      have hv : tmV a b = 0 := by unfold tmV; rw [if_neg (by rw [ht']; simp)]
      rw [ht', hv]
      rw [← ea, ← eb] at ht
      (refine AFnV.start Try.func42 Try.ntmps42 rfl (by kernel_rfl) fun hk => ?_; simp only [Env.start, enumF, List.length_cons, List.length_nil, Nat.reduceAdd, Nat.reduceSub, List.cons_append, List.nil_append])
      repeat' (first | (apply AOps.nil; try simp only [List.nil_append, List.cons_append, List.set_cons_zero, List.set_cons_succ, List.length_cons, List.length_nil, Nat.reduceAdd, AV.sh, AV.sh1, AV.sh0, AO.sh, List.map_cons, List.map_nil, Nat.zero_add, Nat.add_zero, setAll]) | ((apply AOps.splitP; exact rfl; exact rfl) <;> intro h) | (apply w_move; exact rfl; exact rfl) | (apply w_assign; exact rfl; exact rfl) | apply AWp.seq | apply AWp.region | ((apply AWp.condP; exact rfl) <;> intro h) | (apply AWp.condT; exact rfl) | apply AWp.ret | apply AWp.skip | (apply w_skip; exact rfl) | (apply w_pickT; exact rfl; exact rfl; exact rfl) | (apply w_pickF; exact rfl; exact rfl; exact rfl) | omega | ((first | apply w_gtr | apply w_eql | apply w_mul | apply w_max); iterate 3 exact rfl) | (apply w_quo; exact rfl; exact rfl; exact rfl; (focus (omega; done)); (focus (omega; done))) | ((apply w_neg); iterate 2 exact rfl) | (apply inI_of <;> omega))
      all_goals first | exact .intboolA Try.results42 rfl rfl rfl rfl | (exfalso; simp_all; done) | (exfalso; simp_all; omega)
theorem isValue_c (n : Int) : AFnV Try.prog 59 [.i n] (.bool (decide (-1000000000000 ≤ n ∧ n ≤ 1000000000000))) := by
  (refine AFnV.start Try.func59 Try.ntmps59 rfl (by kernel_rfl) fun hk => ?_; simp only [Env.start, enumF, List.length_cons, List.length_nil, Nat.reduceAdd, Nat.reduceSub, List.cons_append, List.nil_append])
  repeat' (first | (apply AOps.nil; try simp only [List.nil_append, List.cons_append, List.set_cons_zero, List.set_cons_succ, List.length_cons, List.length_nil, Nat.reduceAdd, AV.sh, AV.sh1, AV.sh0, AO.sh, List.map_cons, List.map_nil, Nat.zero_add, Nat.add_zero, setAll]) | (apply w_move; exact rfl; exact rfl) | (apply w_assign; exact rfl; exact rfl) | apply AWp.seq | apply AWp.region | apply AWp.ret | (apply w_call (inRange_c _ _ _); exact rfl; exact rfl; focus ((repeat (first | exact im_nil | refine im_cons rfl (.val _) ?_)); done)))
  all_goals exact .bool Try.results59 rfl rfl

/-! ### Comparisons -/
open Classical in
noncomputable def cmpR (a b : List Int) : Int := if lx a b then -1 else if lx b a then 1 else 0
theorem isNaN_c (x : Int) : AFnV Try.prog 56 [.i x] (.bool false) := by
  (refine AFnV.start Try.func56 Try.ntmps56 rfl (by kernel_rfl) fun hk => ?_; simp only [Env.start, enumF, List.length_cons, List.length_nil, Nat.reduceAdd, Nat.reduceSub, List.cons_append, List.nil_append])
  repeat' (first | (apply AOps.nil; try simp only [List.nil_append, List.cons_append, List.set_cons_zero, List.set_cons_succ, List.length_cons, List.length_nil, Nat.reduceAdd, AV.sh, AV.sh1, AV.sh0, AO.sh, List.map_cons, List.map_nil, Nat.zero_add, Nat.add_zero, setAll]) | (apply w_move; exact rfl; exact rfl) | (apply w_assign; exact rfl; exact rfl) | apply AWp.seq | apply AWp.region | apply AWp.ret | ((apply w_neq); iterate 3 exact rfl))
  all_goals exact .bool Try.results56 rfl (by simp)
theorem cmpCompare_c (x y : Int) : AFnV Try.prog 49 [.i x, .i y] (.int .i64 (if x < y then -1 else if y < x then 1 else 0)) := by
  (refine AFnV.start Try.func49 Try.ntmps49 rfl (by kernel_rfl) fun hk => ?_; simp only [Env.start, enumF, List.length_cons, List.length_nil, Nat.reduceAdd, Nat.reduceSub, List.cons_append, List.nil_append])
  repeat' (first | (apply AOps.nil; try simp only [List.nil_append, List.cons_append, List.set_cons_zero, List.set_cons_succ, List.length_cons, List.length_nil, Nat.reduceAdd, AV.sh, AV.sh1, AV.sh0, AO.sh, List.map_cons, List.map_nil, Nat.zero_add, Nat.add_zero, setAll]) | (apply w_move; exact rfl; exact rfl) | (apply w_assign; exact rfl; exact rfl) | apply AWp.seq | apply AWp.region | ((apply AWp.condP; exact rfl) <;> intro h) | (apply AWp.condF; exact rfl) | apply AWp.ret | apply AWp.skip | (apply w_call (isNaN_c _); exact rfl; exact rfl; focus ((repeat (first | exact im_nil | refine im_cons rfl (.val _) ?_)); done)) | ((first | apply w_lss | apply w_gtr); iterate 3 exact rfl))
  all_goals exact .int Try.results49 rfl (by first | (split <;> first | omega | (split <;> omega)) | omega)
theorem compare_c (a b : List Int) (ha : a.length = 2) (hb : b.length = 2) : AFnV Try.prog 32 [.ints a, .ints b] (.int .i64 (cmpR a b)) := by
  (refine AFnV.start Try.func32 Try.ntmps32 rfl (by kernel_rfl) fun hk => ?_; simp only [Env.start, enumF, List.length_cons, List.length_nil, Nat.reduceAdd, Nat.reduceSub, List.cons_append, List.nil_append])
  repeat' (first | (apply AOps.nil; try simp only [List.nil_append, List.cons_append, List.set_cons_zero, List.set_cons_succ, List.length_cons, List.length_nil, Nat.reduceAdd, AV.sh, AV.sh1, AV.sh0, AO.sh, List.map_cons, List.map_nil, Nat.zero_add, Nat.add_zero, setAll]) | (apply w_move; exact rfl; exact rfl) | (apply w_assign; exact rfl; exact rfl) | apply AWp.seq | apply AWp.region | apply AWp.block | (apply w_len; exact rfl; exact rfl; first | exact .ints _ | exact .intss _ | exact .sli rfl | exact .sls rfl | exact .slr rfl | exact .orow rfl | exact .nil))
  refine AWp.loop (ι := Nat) (fun i => ⟨36, [(0, .ints a), (1, .ints b), (9, .ints a), (10, .i a.length), (11, .i i)]⟩) (fun _ => []) (fun i => i ≤ 2 ∧ (1 ≤ i → geti a 0 = geti b 0) ∧ (2 ≤ i → geti a 1 = geti b 1)) (fun i => 2 - i) 0 ⟨by omega, fun h => by omega, fun h => by omega⟩ ⟨lee rfl (by (repeat (first | exact le_nil | refine le_eq rfl rfl ?_))), by (repeat (exact lo_nil)), rfl, rfl⟩ ?_
  rintro i ⟨h0, h1, h2⟩
  have hc := cmpCompare_c (geti a i) (geti b i)
  rcases (show i = 0 ∨ i = 1 ∨ i = 2 by omega) with rfl | rfl | rfl
  · simp only [Int.natCast_zero] at hc
    by_cases hlt : geti a 0 < geti b 0
    · rw [if_pos hlt] at hc
      repeat' (first | (apply AOps.nil; try simp only [List.nil_append, List.cons_append, List.set_cons_zero, List.set_cons_succ, List.length_cons, List.length_nil, Nat.reduceAdd, AV.sh, AV.sh1, AV.sh0, AO.sh, List.map_cons, List.map_nil, Nat.zero_add, Nat.add_zero, setAll]) | (apply w_move; exact rfl; exact rfl) | (apply w_assign; exact rfl; exact rfl) | apply AWp.seq | apply AWp.region | ((apply AWp.condP; exact rfl) <;> intro h) | apply AWp.block | apply AWp.ret | apply AWp.exit | apply AWp.skip | (apply w_len; exact rfl; exact rfl; first | exact .ints _ | exact .intss _ | exact .sli rfl | exact .sls rfl | exact .slr rfl | exact .orow rfl | exact .nil) | (apply w_call (hc); exact rfl; exact rfl; focus ((repeat (first | exact im_nil | refine im_cons rfl (.val _) ?_)); done)) | omega | ((first | apply w_lss | apply w_geq | apply w_neq | apply w_idx | apply w_ld); iterate 3 exact rfl))
      exact .int Try.results32 rfl (by unfold cmpR; rw [if_pos (by unfold lx; omega)])
    · rw [if_neg hlt] at hc
      by_cases hgt : geti b 0 < geti a 0
      · rw [if_pos hgt] at hc
        repeat' (first | (apply AOps.nil; try simp only [List.nil_append, List.cons_append, List.set_cons_zero, List.set_cons_succ, List.length_cons, List.length_nil, Nat.reduceAdd, AV.sh, AV.sh1, AV.sh0, AO.sh, List.map_cons, List.map_nil, Nat.zero_add, Nat.add_zero, setAll]) | (apply w_move; exact rfl; exact rfl) | (apply w_assign; exact rfl; exact rfl) | apply AWp.seq | apply AWp.region | ((apply AWp.condP; exact rfl) <;> intro h) | apply AWp.block | apply AWp.ret | apply AWp.exit | apply AWp.skip | (apply w_len; exact rfl; exact rfl; first | exact .ints _ | exact .intss _ | exact .sli rfl | exact .sls rfl | exact .slr rfl | exact .orow rfl | exact .nil) | (apply w_call (hc); exact rfl; exact rfl; focus ((repeat (first | exact im_nil | refine im_cons rfl (.val _) ?_)); done)) | omega | ((first | apply w_lss | apply w_geq | apply w_neq | apply w_idx | apply w_ld); iterate 3 exact rfl))
        exact .int Try.results32 rfl (by unfold cmpR; rw [if_neg (by unfold lx; omega), if_pos (by unfold lx; omega)])
      · rw [if_neg hgt] at hc
        repeat' (first | (apply AOps.nil; try simp only [List.nil_append, List.cons_append, List.set_cons_zero, List.set_cons_succ, List.length_cons, List.length_nil, Nat.reduceAdd, AV.sh, AV.sh1, AV.sh0, AO.sh, List.map_cons, List.map_nil, Nat.zero_add, Nat.add_zero, setAll]) | (apply w_move; exact rfl; exact rfl) | (apply w_assign; exact rfl; exact rfl) | apply AWp.seq | apply AWp.region | ((apply AWp.condP; exact rfl) <;> intro h) | apply AWp.block | apply AWp.ret | apply AWp.exit | apply AWp.skip | (apply w_len; exact rfl; exact rfl; first | exact .ints _ | exact .intss _ | exact .sli rfl | exact .sls rfl | exact .slr rfl | exact .orow rfl | exact .nil) | (apply w_call (hc); exact rfl; exact rfl; focus ((repeat (first | exact im_nil | refine im_cons rfl (.val _) ?_)); done)) | omega | ((first | apply w_lss | apply w_geq | apply w_neq | apply w_add | apply w_idx | apply w_ld); iterate 3 exact rfl) | (apply inI_of <;> omega))
        exact ⟨1, ⟨by omega, fun _ => by omega, fun h => by omega⟩, by omega, ⟨lee rfl (by (repeat (first | exact le_nil | refine le_eq rfl rfl ?_))), by (repeat (exact lo_nil)), rfl, rfl⟩⟩
  · simp only [Int.natCast_one] at hc
    have e0 := h1 (by omega)
    by_cases hlt : geti a 1 < geti b 1
    · rw [if_pos hlt] at hc
      repeat' (first | (apply AOps.nil; try simp only [List.nil_append, List.cons_append, List.set_cons_zero, List.set_cons_succ, List.length_cons, List.length_nil, Nat.reduceAdd, AV.sh, AV.sh1, AV.sh0, AO.sh, List.map_cons, List.map_nil, Nat.zero_add, Nat.add_zero, setAll]) | (apply w_move; exact rfl; exact rfl) | (apply w_assign; exact rfl; exact rfl) | apply AWp.seq | apply AWp.region | ((apply AWp.condP; exact rfl) <;> intro h) | apply AWp.block | apply AWp.ret | apply AWp.exit | apply AWp.skip | (apply w_len; exact rfl; exact rfl; first | exact .ints _ | exact .intss _ | exact .sli rfl | exact .sls rfl | exact .slr rfl | exact .orow rfl | exact .nil) | (apply w_call (hc); exact rfl; exact rfl; focus ((repeat (first | exact im_nil | refine im_cons rfl (.val _) ?_)); done)) | omega | ((first | apply w_lss | apply w_geq | apply w_neq | apply w_idx | apply w_ld); iterate 3 exact rfl))
      exact .int Try.results32 rfl (by unfold cmpR; rw [if_pos (by unfold lx; omega)])
    · rw [if_neg hlt] at hc
      by_cases hgt : geti b 1 < geti a 1
      · rw [if_pos hgt] at hc
        repeat' (first | (apply AOps.nil; try simp only [List.nil_append, List.cons_append, List.set_cons_zero, List.set_cons_succ, List.length_cons, List.length_nil, Nat.reduceAdd, AV.sh, AV.sh1, AV.sh0, AO.sh, List.map_cons, List.map_nil, Nat.zero_add, Nat.add_zero, setAll]) | (apply w_move; exact rfl; exact rfl) | (apply w_assign; exact rfl; exact rfl) | apply AWp.seq | apply AWp.region | ((apply AWp.condP; exact rfl) <;> intro h) | apply AWp.block | apply AWp.ret | apply AWp.exit | apply AWp.skip | (apply w_len; exact rfl; exact rfl; first | exact .ints _ | exact .intss _ | exact .sli rfl | exact .sls rfl | exact .slr rfl | exact .orow rfl | exact .nil) | (apply w_call (hc); exact rfl; exact rfl; focus ((repeat (first | exact im_nil | refine im_cons rfl (.val _) ?_)); done)) | omega | ((first | apply w_lss | apply w_geq | apply w_neq | apply w_idx | apply w_ld); iterate 3 exact rfl))
        exact .int Try.results32 rfl (by unfold cmpR; rw [if_neg (by unfold lx; omega), if_pos (by unfold lx; omega)])
      · rw [if_neg hgt] at hc
        repeat' (first | (apply AOps.nil; try simp only [List.nil_append, List.cons_append, List.set_cons_zero, List.set_cons_succ, List.length_cons, List.length_nil, Nat.reduceAdd, AV.sh, AV.sh1, AV.sh0, AO.sh, List.map_cons, List.map_nil, Nat.zero_add, Nat.add_zero, setAll]) | (apply w_move; exact rfl; exact rfl) | (apply w_assign; exact rfl; exact rfl) | apply AWp.seq | apply AWp.region | ((apply AWp.condP; exact rfl) <;> intro h) | apply AWp.block | apply AWp.ret | apply AWp.exit | apply AWp.skip | (apply w_len; exact rfl; exact rfl; first | exact .ints _ | exact .intss _ | exact .sli rfl | exact .sls rfl | exact .slr rfl | exact .orow rfl | exact .nil) | (apply w_call (hc); exact rfl; exact rfl; focus ((repeat (first | exact im_nil | refine im_cons rfl (.val _) ?_)); done)) | omega | ((first | apply w_lss | apply w_geq | apply w_neq | apply w_add | apply w_idx | apply w_ld); iterate 3 exact rfl) | (apply inI_of <;> omega))
        exact ⟨2, ⟨by omega, fun _ => by omega, fun h => by omega⟩, by omega, ⟨lee rfl (by (repeat (first | exact le_nil | refine le_eq rfl rfl ?_))), by (repeat (exact lo_nil)), rfl, rfl⟩⟩
  · have e0 := h1 (by omega)
    have e1 := h2 (by omega)
    repeat' (first | (apply AOps.nil; try simp only [List.nil_append, List.cons_append, List.set_cons_zero, List.set_cons_succ, List.length_cons, List.length_nil, Nat.reduceAdd, AV.sh, AV.sh1, AV.sh0, AO.sh, List.map_cons, List.map_nil, Nat.zero_add, Nat.add_zero, setAll]) | (apply w_move; exact rfl; exact rfl) | (apply w_assign; exact rfl; exact rfl) | apply AWp.seq | apply AWp.region | ((apply AWp.condP; exact rfl) <;> intro h) | apply AWp.block | apply AWp.ret | apply AWp.exit | apply AWp.skip | (apply w_len; exact rfl; exact rfl; first | exact .ints _ | exact .intss _ | exact .sli rfl | exact .sls rfl | exact .slr rfl | exact .orow rfl | exact .nil) | omega | ((apply w_lss); iterate 3 exact rfl))
    exact .int Try.results32 rfl (by unfold cmpR; rw [if_neg (by unfold lx; omega), if_neg (by unfold lx; omega)])

/-! ### Greatest and least numbers -/
def maxL : List Int → Int → Int
  | [], m => m
  | x :: xs, m => maxL xs (max m x)
def minL : List Int → Int → Int
  | [], m => m
  | x :: xs, m => minL xs (min m x)
theorem take_geti {xs : List Int} {i : Nat} (h : i < xs.length) : xs.take (i + 1) = xs.take i ++ [geti xs (i : Nat)] := by
  rw [List.take_add_one, List.getElem?_eq_getElem h]; simp [geti, List.getD_eq_getElem?_getD, List.getElem?_eq_getElem h]
theorem maxL_app : ∀ (a b : List Int) (m : Int), maxL (a ++ b) m = maxL b (maxL a m)
  | [], b, m => rfl
  | x :: a, b, m => maxL_app a b _
theorem minL_app : ∀ (a b : List Int) (m : Int), minL (a ++ b) m = minL b (minL a m)
  | [], b, m => rfl
  | x :: a, b, m => minL_app a b _
theorem slicesMax_c (xs : List Int) (h : 0 < xs.length) (hl : xs.length ≤ 1000000) : AFnV Try.prog 33 [.ints xs] (.int .i64 (maxL xs (geti xs 0))) := by
  (refine AFnV.start Try.func33 Try.ntmps33 rfl (by kernel_rfl) fun hk => ?_; simp only [Env.start, enumF, List.length_cons, List.length_nil, Nat.reduceAdd, Nat.reduceSub, List.cons_append, List.nil_append])
  repeat' (first | (apply AOps.nil; try simp only [List.nil_append, List.cons_append, List.set_cons_zero, List.set_cons_succ, List.length_cons, List.length_nil, Nat.reduceAdd, AV.sh, AV.sh1, AV.sh0, AO.sh, List.map_cons, List.map_nil, Nat.zero_add, Nat.add_zero, setAll]) | (apply w_move; exact rfl; exact rfl) | (apply w_assign; exact rfl; exact rfl) | apply AWp.seq | apply AWp.region | ((apply AWp.condP; exact rfl) <;> intro h) | apply AWp.block | apply AWp.skip | (apply w_len; exact rfl; exact rfl; first | exact .ints _ | exact .intss _ | exact .sli rfl | exact .sls rfl | exact .slr rfl | exact .orow rfl | exact .nil) | omega | ((first | apply w_lss | apply w_idx | apply w_ld); iterate 3 exact rfl))
  refine AWp.loop (ι := Nat) (fun i => ⟨25, [(0, .ints xs), (3, .i (maxL (xs.take i) (geti xs 0))), (4, .i i)]⟩) (fun _ => []) (fun i => 1 ≤ i ∧ i ≤ xs.length) (fun i => xs.length - i) 1 (by omega) ⟨lee rfl (by
    refine le_eq rfl rfl ?_
    refine le_eq rfl (congrArg AV.i ?_) ?_
    · obtain ⟨x, xs, rfl⟩ : ∃ x xs', xs = x :: xs' := by cases xs with
        | nil => simp at h
        | cons x xs => exact ⟨x, xs, rfl⟩
      simp [maxL, geti]
    refine le_eq rfl rfl ?_
    exact le_nil), by (repeat (exact lo_nil)), rfl, rfl⟩ ?_
  rintro i ⟨i1, i2⟩
  by_cases hi : i < xs.length
  · have e1 : maxL (xs.take (i + 1)) (geti xs 0) = max (maxL (xs.take i) (geti xs 0)) (geti xs (i : Nat)) := by rw [take_geti hi, maxL_app]; rfl
    repeat' (first | (apply AOps.nil; try simp only [List.nil_append, List.cons_append, List.set_cons_zero, List.set_cons_succ, List.length_cons, List.length_nil, Nat.reduceAdd, AV.sh, AV.sh1, AV.sh0, AO.sh, List.map_cons, List.map_nil, Nat.zero_add, Nat.add_zero, setAll]) | (apply w_move; exact rfl; exact rfl) | (apply w_assign; exact rfl; exact rfl) | apply AWp.seq | apply AWp.region | ((apply AWp.condP; exact rfl) <;> intro h) | apply AWp.block | apply AWp.ret | apply AWp.exit | apply AWp.skip | (apply w_len; exact rfl; exact rfl; first | exact .ints _ | exact .intss _ | exact .sli rfl | exact .sls rfl | exact .slr rfl | exact .orow rfl | exact .nil) | omega | ((first | apply w_lss | apply w_add | apply w_idx | apply w_ld | apply w_max); iterate 3 exact rfl) | (apply inI_of <;> omega))
    exact ⟨i + 1, by omega, by omega, ⟨lee rfl (by (repeat (first | exact le_nil | refine le_eq rfl rfl ?_ | refine le_eq rfl (congrArg AV.i (by omega)) ?_))), by (repeat (exact lo_nil)), rfl, rfl⟩⟩
  · have e : i = xs.length := by omega
    subst e
    repeat' (first | (apply AOps.nil; try simp only [List.nil_append, List.cons_append, List.set_cons_zero, List.set_cons_succ, List.length_cons, List.length_nil, Nat.reduceAdd, AV.sh, AV.sh1, AV.sh0, AO.sh, List.map_cons, List.map_nil, Nat.zero_add, Nat.add_zero, setAll]) | (apply w_move; exact rfl; exact rfl) | (apply w_assign; exact rfl; exact rfl) | apply AWp.seq | apply AWp.region | ((apply AWp.condP; exact rfl) <;> intro h) | apply AWp.block | apply AWp.ret | apply AWp.exit | apply AWp.skip | (apply w_len; exact rfl; exact rfl; first | exact .ints _ | exact .intss _ | exact .sli rfl | exact .sls rfl | exact .slr rfl | exact .orow rfl | exact .nil) | omega | ((apply w_lss); iterate 3 exact rfl))
    exact .int Try.results33 rfl (by rw [List.take_length])
end Go.Proofs.Ythjkpmjdkcainaa
/-
  bits.Len, by the library's own contract laid at this dump in plain words. No condition.
-/
namespace Go.Proofs.Ythjkpmjdkcainaa
open Go Go.RowKit Go.Shelf
def lays125_ren : Go.Shelf.Ren := ⟨fun | 125 => 58 | 128 => 70 | 129 => 71 | n => n, fun | 46 => 62 | 3 => 3 | 51 => 101 | 53 => 42 | 4 => 4 | 5 => 5 | 9 => 9 | n => n, fun | n => n⟩
theorem lays125 : Go.Proofs.Lays.n125 Try.prog lays125_ren := {
  mixed := by kernel_rfl
  f125 := Try.func58.trans (congrArg some (by kernel_rfl))
  f128 := Try.func70.trans (congrArg some (by kernel_rfl))
  f129 := Try.func71.trans (congrArg some (by kernel_rfl))
  t3 := Try.underlying3
  a3 := Try.isAgg3
  z3 := Try.sizeOf3
  v3 := Try.zeroValue3
  t4 := Try.underlying4
  a4 := Try.isAgg4
  z4 := Try.sizeOf4
  v4 := Try.zeroValue4
  t5 := Try.underlying5
  a5 := Try.isAgg5
  z5 := Try.sizeOf5
  v5 := Try.zeroValue5
  t9 := Try.underlying9
  a9 := Try.isAgg9
  z9 := Try.sizeOf9
  v9 := Try.zeroValue9
  t46 := Try.underlying62
  a46 := Try.isAgg62
  z46 := Try.sizeOf62
  v46 := Try.zeroValue62
  t51 := Try.underlying101
  a51 := Try.isAgg101
  z51 := Try.sizeOf101
  v51 := Try.zeroValue101
  t53 := Try.underlying42
  a53 := Try.isAgg42
  z53 := Try.sizeOf42
  v53 := Try.zeroValue42 }
theorem bits_Len (x : Int) (w : World) (h0 : 0 ≤ x) (h1 : x ≤ 18446744073709551615) :
    Calls Try.prog 58 #[.int .u64 x] w fun e w' => e = .returned (.int .i64 (Lib.bitLen x.toNat)) ∧ w' = w := Any.bits_Len lays125 x w h0 h1
theorem bitsLen_c (n : Int) (h0 : 0 ≤ n) (h1 : n ≤ 18446744073709551615) : AFnV Try.prog 58 [.val (.int .u64 n)] (.int .i64 (Lib.bitLen n.toNat)) := by
  refine ⟨⟨_, _, Try.func58, by kernel_rfl, rfl⟩, fun w vs ⟨h2, h3⟩ => ?_⟩
  have e0 := h3 0
  obtain ⟨l⟩ := vs
  match l, h2 with
  | [v], _ =>
    have e1 : RV w (fun _ => True) [] v (.val (.int .u64 n)) := by simpa using e0
    cases e1
    exact (bits_Len n w h0 h1).mono fun e w' ⟨he, hw⟩ => ⟨he, hw ▸ Below.refl _ _⟩
end Go.Proofs.Ythjkpmjdkcainaa
/-
  Functions without results that write to what they are handed. No condition.
-/
namespace Go.Proofs.Ythjkpmjdkcainaa
open Go Go.RowKit
theorem AFnUN.of {P : Program} {f : FuncId} {fn : Func} {c : Code} {args : List AV} {os : List AO} {Q : Value → List AO → Prop} {n : Nat} (hf : P.funcs[f]? = some fn) (hb : fn.body = some c) (hnm : (fn.name == "runtime.NumGoroutine") = false) (hn : fn.ntmps - args.length = n)
    (h : ∀ K, AWp P c (fun env os1 => ∃ v os', ResIs P fn env os1 (.val v) ∧ Q v os' ∧ os1.take os.length = os' ∧ os1[os.length]? = some (.keep (os.length + 1) K) ∧ ∀ o ∈ os', o.plain) (fun _ _ _ => False) (fun env os1 => ∃ v os', ResIs P fn env os1 (.val v) ∧ Q v os' ∧ os1.take os.length = os' ∧ os1[os.length]? = some (.keep (os.length + 1) K) ∧ ∀ o ∈ os', o.plain) (Env.start args n) (os ++ [.keep (os.length + 1) K])) :
    AFnU P f args os Q := by
  refine ⟨⟨fn, c, hf, hnm, hb⟩, fun base w gs vs hbase hO hsz hvs => calls_of_wp hf hb ?_⟩
  rw [show fn.ntmps - vs.size = n by rw [hsz]; exact hn]
  let bl : List Nat := (List.range w.heap.size).filter fun b => decide (base ≤ b) && gs.all fun g => !g.bl.contains b
  let gk : Gh := ⟨undef, 0, bl, []⟩
  let K : Kp := ⟨fun b => w.heap[b]?, gs ++ [gk]⟩
  have hbl : ∀ b, b ∈ bl ↔ b < w.heap.size ∧ base ≤ b ∧ ∀ (h : Nat) g, gs[h]? = some g → b ∉ g.bl := by
    intro b
    simp only [bl, List.mem_filter, List.mem_range, Bool.and_eq_true, decide_eq_true_eq, List.all_eq_true, Bool.not_eq_true', List.contains_eq_mem, decide_eq_false_iff_not]
    constructor
    · rintro ⟨h1, h2, h3⟩
      exact ⟨h1, h2, fun h g hg => h3 g (List.mem_of_getElem? hg)⟩
    · rintro ⟨h1, h2, h3⟩
      exact ⟨h1, h2, fun g hg => by obtain ⟨i, hi⟩ := List.getElem?_of_mem hg; exact h3 i g hi⟩
  have hl := hO.hl
  have part : ∀ {i : Nat} {x : Gh} {y : AO}, (gs ++ [gk])[i]? = some x → (os ++ [.keep (os.length + 1) K])[i]? = some y → (gs[i]? = some x ∧ os[i]? = some y) ∨ (i = os.length ∧ x = gk ∧ y = .keep (os.length + 1) K) := by
    intro i x y hx hy
    rcases append_one hx with ⟨h1, h2⟩ | ⟨h1, rfl⟩
    · rcases append_one hy with ⟨h3, h4⟩ | ⟨h3, rfl⟩
      · exact .inl ⟨h2, h4⟩
      · omega
    · rcases append_one hy with ⟨h3, h4⟩ | ⟨h3, rfl⟩
      · omega
      · exact .inr ⟨h3, rfl, rfl⟩
  have gl : ∀ (i : Nat) x, gs[i]? = some x → (gs ++ [gk])[i]? = some x := fun i x e => by
    rw [List.getElem?_append_left (List.getElem?_eq_some_iff.1 e).1]; exact e
  have kp : Keeps (okOf gs os) (okOf (gs ++ [gk]) (os ++ [.keep (os.length + 1) K])) w w := by
    intro b hbk _
    refine ⟨fun i x y hx hy hny hm => ?_, rfl⟩
    rcases part hx hy with ⟨h1, h2⟩ | ⟨_, _, rfl⟩
    · exact hbk i x y h1 h2 hny hm
    · exact hny.elim
  have hrel : Rel base w (gs ++ [gk]) (Env.start args n) (os ++ [.keep (os.length + 1) K]) (vs ++ Array.replicate n undef) := by
    refine ⟨hbase, by simp [hl], by simp [Env.start, hsz], fun i => ?_, ?_, ?_, ?_⟩
    · exact start_rv args n vs (fun i => (hvs i).mono kp gl) i
    · intro i x y hx hy
      rcases part hx hy with ⟨h1, h2⟩ | ⟨_, rfl, rfl⟩
      · exact (hO.hp y (List.mem_of_getElem? h2)).ro (hO.ho i x y h1 h2)
      · exact ⟨fun b _ => rfl, by simp [K, hl], fun i x h => h⟩
    · intro i j g1 g2 o1 o2 hij hg1 hg2 ho1 ho2 _ _ b hb1 hb2
      rcases part hg1 ho1 with ⟨a1, a2⟩ | ⟨a1, rfl, _⟩
      · rcases part hg2 ho2 with ⟨b1, b2⟩ | ⟨_, rfl, _⟩
        · exact hO.hd i j g1 g2 hij a1 b1 b hb1 hb2
        · exact ((hbl b).1 hb2).2.2 i g1 a1 hb1
      · rcases part hg2 ho2 with ⟨b1, b2⟩ | ⟨b1, _, _⟩
        · exact ((hbl b).1 hb1).2.2 j g2 b1 hb2
        · omega
    · intro i x y hx hy _ b hb
      rcases part hx hy with ⟨h1, h2⟩ | ⟨_, rfl, _⟩
      · exact hO.hn i x h1 b hb
      · exact ⟨((hbl b).1 hb).2.1, ((hbl b).1 hb).1⟩
  refine wp_mono (h K base w w _ _ hrel (Below.refl _ _)) ?_
  intro e a w' hq
  cases e with
  | normal =>
    obtain ⟨env, os1, gs1, hr, hd, hbel, v, os', h1, h2, h3, h4, h5⟩ := hq
    obtain ⟨u, hu, hv⟩ := h1 _ _ _ _ hr
    cases hv
    have hlt : os.length < os1.length := (List.getElem?_eq_some_iff.1 h4).1
    have hltg : os.length < gs1.length := by have := hr.hl; omega
    obtain ⟨g1, hg1⟩ : ∃ g1, gs1[os.length]? = some g1 := ⟨_, List.getElem?_eq_getElem hltg⟩
    obtain ⟨r1, r2, r3⟩ := hr.ho _ _ _ hg1 h4
    have pin : ∀ (i : Nat) x, gs[i]? = some x → gs1[i]? = some x := fun i x e => r3 i x (gl i x e)
    have egk : g1 = gk := by
      have := r3 os.length gk (by show (gs ++ [gk])[os.length]? = some gk; rw [← hl]; simp)
      rw [hg1] at this
      exact Option.some.inj this
    rw [egk] at r1
    have get' : ∀ {i : Nat} {y : AO}, os'[i]? = some y → os1[i]? = some y ∧ i < os.length := by
      intro i y hy
      rw [← h3, List.getElem?_take] at hy
      split at hy
      · exact ⟨hy, ‹_›⟩
      · cases hy
    refine ⟨hd, v, hu, v, os', rfl, h2, ⟨?_, h5, ?_, hO.hd, ?_⟩, hbel, ?_⟩
    · rw [← h3, List.length_take]; omega
    · intro i x y hx hy
      obtain ⟨h6, h7⟩ := get' hy
      exact (h5 y (List.mem_of_getElem? hy)).ro (hr.ho i x y (pin i x hx) h6)
    · intro i x hx b hb
      have := hO.hn i x hx b hb
      exact ⟨this.1, Nat.lt_of_lt_of_le this.2 hbel.size⟩
    · intro b hb hnot
      rcases Nat.lt_or_ge b base with h6 | h6
      · exact hbel.block b h6
      · exact r1 b ((hbl b).2 ⟨hb, h6, hnot⟩)
  | exit j => obtain ⟨_, _, _, _, _, _, hx⟩ := hq; exact hx.elim
  | ret =>
    obtain ⟨env, os1, gs1, hr, hd, hbel, v, os', h1, h2, h3, h4, h5⟩ := hq
    obtain ⟨u, hu, hv⟩ := h1 _ _ _ _ hr
    cases hv
    have hlt : os.length < os1.length := (List.getElem?_eq_some_iff.1 h4).1
    have hltg : os.length < gs1.length := by have := hr.hl; omega
    obtain ⟨g1, hg1⟩ : ∃ g1, gs1[os.length]? = some g1 := ⟨_, List.getElem?_eq_getElem hltg⟩
    obtain ⟨r1, r2, r3⟩ := hr.ho _ _ _ hg1 h4
    have pin : ∀ (i : Nat) x, gs[i]? = some x → gs1[i]? = some x := fun i x e => r3 i x (gl i x e)
    have egk : g1 = gk := by
      have := r3 os.length gk (by show (gs ++ [gk])[os.length]? = some gk; rw [← hl]; simp)
      rw [hg1] at this
      exact Option.some.inj this
    rw [egk] at r1
    have get' : ∀ {i : Nat} {y : AO}, os'[i]? = some y → os1[i]? = some y ∧ i < os.length := by
      intro i y hy
      rw [← h3, List.getElem?_take] at hy
      split at hy
      · exact ⟨hy, ‹_›⟩
      · cases hy
    refine ⟨hd, v, hu, v, os', rfl, h2, ⟨?_, h5, ?_, hO.hd, ?_⟩, hbel, ?_⟩
    · rw [← h3, List.length_take]; omega
    · intro i x y hx hy
      obtain ⟨h6, h7⟩ := get' hy
      exact (h5 y (List.mem_of_getElem? hy)).ro (hr.ho i x y (pin i x hx) h6)
    · intro i x hx b hb
      have := hO.hn i x hx b hb
      exact ⟨this.1, Nat.lt_of_lt_of_le this.2 hbel.size⟩
    · intro b hb hnot
      rcases Nat.lt_or_ge b base with h6 | h6
      · exact hbel.block b h6
      · exact r1 b ((hbl b).2 ⟨hb, h6, hnot⟩)
  | goto l => exact (hq : False).elim
  | panic ch => exact (hq : False).elim
  | outgrown => exact (hq : False).elim


theorem AFnUN.start {P : Program} {f : FuncId} {fn : Func} {c : Code} {args : List AV} {objs : List AO} {Q : Value → List AO → Prop} {m : Nat} (hf : P.funcs[f]? = some fn) (hn : fn.ntmps = m) (hb : fn.body = some c) (hnm : (fn.name == "runtime.NumGoroutine") = false)
    (h : ∀ K, AWp P c (fun env os1 => ∃ v os', ResIs P fn env os1 (.val v) ∧ Q v os' ∧ os1.take objs.length = os' ∧ os1[objs.length]? = some (.keep (objs.length + 1) K) ∧ ∀ o ∈ os', o.plain) (fun _ _ _ => False) (fun env os1 => ∃ v os', ResIs P fn env os1 (.val v) ∧ Q v os' ∧ os1.take objs.length = os' ∧ os1[objs.length]? = some (.keep (objs.length + 1) K) ∧ ∀ o ∈ os', o.plain) (Env.start args (m - args.length)) (objs ++ [.keep (objs.length + 1) K])) :
    AFnU P f args objs Q := AFnUN.of hf hb hnm (by rw [hn]) h
theorem ResIs.unit {P : Program} {fn : Func} {env : Env} {os : List AO} (h : fn.results = #[]) : ResIs P fn env os (.val (.tuple #[])) :=
  fun _ _ _ tm hr => ⟨.tuple #[], by unfold results; rw [h]; simp, .val _⟩
end Go.Proofs.Ythjkpmjdkcainaa
/-
  Sorting what is in order already: nothing is written. Condition: few numbers.
-/
namespace Go.Proofs.Ythjkpmjdkcainaa
open Go Go.RowKit
attribute [local irreducible] AWp AOps ResIs Ret1 QOp LOp COp AFnV AFn Imms LeE LeO
set_option maxHeartbeats 1000000
set_option linter.unusedSimpArgs false
set_option linter.unusedVariables false

def Srt (xs : List Int) : Prop := ∀ i j : Nat, i ≤ j → j < xs.length → geti xs (i : Nat) ≤ geti xs (j : Nat)
theorem srt_of {xs : List Int} (h : xs.Pairwise (· < ·)) : Srt xs := by
  intro i j hij hj
  rcases Nat.lt_or_eq_of_le hij with h1 | rfl
  · have := List.pairwise_iff_getElem.1 h i j (by omega) hj h1
    simp only [geti, Int.toNat_natCast, List.getD_eq_getElem?_getD, List.getElem?_eq_getElem hj, List.getElem?_eq_getElem (show i < xs.length by omega), Option.getD_some]
    omega
  · omega
theorem less_c (a b : Int) : AFnV Try.prog 67 [.i a, .i b] (.bool (decide (a < b))) := by
  (refine AFnV.start Try.func67 Try.ntmps67 rfl (by kernel_rfl) fun hk => ?_; simp only [Env.start, enumF, List.length_cons, List.length_nil, Nat.reduceAdd, Nat.reduceSub, List.cons_append, List.nil_append])
  repeat' (first | (apply AOps.nil; try simp only [List.nil_append, List.cons_append, List.set_cons_zero, List.set_cons_succ, List.length_cons, List.length_nil, Nat.reduceAdd, AV.sh, AV.sh1, AV.sh0, AO.sh, List.map_cons, List.map_nil, Nat.zero_add, Nat.add_zero, setAll]) | (apply w_move; exact rfl; exact rfl) | (apply w_assign; exact rfl; exact rfl) | apply AWp.seq | apply AWp.region | apply AWp.ret | (apply w_skip; exact rfl) | (apply w_pickF; exact rfl; exact rfl; exact rfl) | (apply w_call (isNaN_c _); exact rfl; exact rfl; focus ((repeat (first | exact im_nil | refine im_cons rfl (.val _) ?_)); done)) | ((apply w_lss); iterate 3 exact rfl))
  all_goals exact .bool Try.results67 rfl (by simp)
theorem insertionSort_s (xs : List Int) (hs : Srt xs) (hl : xs.length ≤ 12) : AFnU Try.prog 61 [.ints xs, .i 0, .i xs.length] [] (fun v os => v = .tuple #[] ∧ os = []) := by
  (refine AFnUN.start Try.func61 Try.ntmps61 rfl (by kernel_rfl) fun K => ?_; simp only [Env.start, enumF, List.length_cons, List.length_nil, Nat.reduceAdd, Nat.reduceSub, List.cons_append, List.nil_append])
  repeat' (first | (apply AOps.nil; try simp only [List.nil_append, List.cons_append, List.set_cons_zero, List.set_cons_succ, List.length_cons, List.length_nil, Nat.reduceAdd, AV.sh, AV.sh1, AV.sh0, AO.sh, List.map_cons, List.map_nil, Nat.zero_add, Nat.add_zero, setAll]) | (apply w_move; exact rfl; exact rfl) | (apply w_assign; exact rfl; exact rfl) | apply AWp.seq | apply AWp.region | apply AWp.block | ((apply w_add); iterate 3 exact rfl) | (apply inI_of <;> omega))
  refine AWp.loop (ι := Nat) (fun p => ⟨49, [(0, .ints xs), (1, .i 0), (2, .i xs.length), (6, .i (p + 1))]⟩) (fun p => [.keep 1 K]) (fun p => p ≤ xs.length) (fun p => xs.length - p) 0 (by omega) ⟨lee rfl (by (repeat (first | exact le_nil | refine le_eq rfl rfl ?_))), by (repeat (first | exact lo_nil | refine lo_eq rfl ?_)), rfl, rfl⟩ ?_
  rintro p p0
  by_cases hp : p + 1 < xs.length
  · have hle := hs p (p + 1) (by omega) hp
    have e1 : ((p : Int) + 1 - 1) = (p : Nat) := by omega
    have e2 : ((p : Int) + 1) = ((p + 1 : Nat) : Int) := by omega
    rw [← e1, ← e2] at hle
    repeat' (first | (apply AOps.nil; try simp only [List.nil_append, List.cons_append, List.set_cons_zero, List.set_cons_succ, List.length_cons, List.length_nil, Nat.reduceAdd, AV.sh, AV.sh1, AV.sh0, AO.sh, List.map_cons, List.map_nil, Nat.zero_add, Nat.add_zero, setAll]) | (apply w_move; exact rfl; exact rfl) | (apply w_assign; exact rfl; exact rfl) | apply AWp.seq | apply AWp.region | ((apply AWp.condP; exact rfl) <;> intro h) | apply AWp.block | apply AWp.exit | apply AWp.skip | (apply if_pos'; exact rfl) | omega | ((apply w_lss); iterate 3 exact rfl))
    refine AWp.loop (ι := Unit) (fun _ => ⟨49, [(0, .ints xs), (1, .i 0), (2, .i xs.length), (6, .i (p + 1)), (7, .i (p + 1))]⟩) (fun _ => [.keep 1 K]) (fun _ => True) (fun _ => 0) () trivial ⟨lee rfl (by (repeat (first | exact le_nil | refine le_eq rfl rfl ?_))), by (repeat (first | exact lo_nil | refine lo_eq rfl ?_)), rfl, rfl⟩ ?_
    rintro _ _
    have hc := less_c (geti xs ((p : Int) + 1)) (geti xs ((p : Int) + 1 - 1))
    rw [decide_eq_false (by omega)] at hc
    repeat' (first | (apply AOps.nil; try simp only [List.nil_append, List.cons_append, List.set_cons_zero, List.set_cons_succ, List.length_cons, List.length_nil, Nat.reduceAdd, AV.sh, AV.sh1, AV.sh0, AO.sh, List.map_cons, List.map_nil, Nat.zero_add, Nat.add_zero, setAll]) | ((apply AOps.splitP; exact rfl; exact rfl) <;> intro h) | (apply w_move; exact rfl; exact rfl) | (apply w_assign; exact rfl; exact rfl) | apply AWp.seq | apply AWp.region | (apply AWp.condF; exact rfl) | apply AWp.exit | (apply AWp.regionQ; kernel_rfl; kernel_rfl) | (apply w_skip; exact rfl) | (apply w_pickT; exact rfl; exact rfl; exact rfl) | (apply w_pickF; exact rfl; exact rfl; exact rfl) | (apply w_call (hc); exact rfl; exact rfl; focus ((repeat (first | exact im_nil | refine im_cons rfl (.val _) ?_)); done)) | omega | ((first | apply w_gtr | apply w_add | apply w_sub | apply w_idx | apply w_ld); iterate 3 exact rfl) | (apply inI_of <;> omega))
    all_goals exact ⟨p + 1, by omega, by omega, ⟨lee rfl (by (repeat (first | exact le_nil | refine le_eq rfl rfl ?_))), by (repeat (first | exact lo_nil | refine lo_eq rfl ?_)), rfl, rfl⟩⟩
  · repeat' (first | (apply AOps.nil; try simp only [List.nil_append, List.cons_append, List.set_cons_zero, List.set_cons_succ, List.length_cons, List.length_nil, Nat.reduceAdd, AV.sh, AV.sh1, AV.sh0, AO.sh, List.map_cons, List.map_nil, Nat.zero_add, Nat.add_zero, setAll]) | (apply w_move; exact rfl; exact rfl) | (apply w_assign; exact rfl; exact rfl) | apply AWp.seq | apply AWp.region | ((apply AWp.condP; exact rfl) <;> intro h) | apply AWp.block | apply AWp.exit | apply AWp.skip | (apply if_pos'; exact rfl) | omega | ((apply w_lss); iterate 3 exact rfl))
    exact ⟨_, _, .unit Try.results61, ⟨rfl, rfl⟩, rfl, rfl, by simp⟩
theorem order2_s (xs : List Int) (hs : Srt xs) (a b : Nat) (hab : a ≤ b) (hb : b < xs.length) : AFnV Try.prog 77 [.ints xs, .i a, .i b, .any] (.tuple #[.int .i64 a, .int .i64 b]) := by
  have hle := hs a b hab hb
  have hc := less_c (geti xs (b : Nat)) (geti xs (a : Nat))
  rw [decide_eq_false (by omega)] at hc
  (refine AFnV.start Try.func77 Try.ntmps77 rfl (by kernel_rfl) fun hk0 => ?_; simp only [Env.start, enumF, List.length_cons, List.length_nil, Nat.reduceAdd, Nat.reduceSub, List.cons_append, List.nil_append])
  obtain ⟨hk, hl⟩ : ArgOk (.ints xs) := hk0 _ (by simp)
  repeat' (first | (apply AOps.nil; try simp only [List.nil_append, List.cons_append, List.set_cons_zero, List.set_cons_succ, List.length_cons, List.length_nil, Nat.reduceAdd, AV.sh, AV.sh1, AV.sh0, AO.sh, List.map_cons, List.map_nil, Nat.zero_add, Nat.add_zero, setAll]) | (apply w_move; exact rfl; exact rfl) | (apply w_assign; exact rfl; exact rfl) | apply AWp.seq | apply AWp.region | (apply AWp.condF; exact rfl) | apply AWp.ret | apply AWp.skip | (apply AWp.regionQ; kernel_rfl; kernel_rfl) | (apply w_call (hc); exact rfl; exact rfl; focus ((repeat (first | exact im_nil | refine im_cons rfl (.val _) ?_)); done)) | omega | ((first | apply w_idx | apply w_ld); iterate 3 exact rfl))
  all_goals exact .intint Try.results77 rfl rfl rfl rfl
theorem median_s (xs : List Int) (hs : Srt xs) (a b c : Nat) (hab : a ≤ b) (hbc : b ≤ c) (hc : c < xs.length) : AFnV Try.prog 76 [.ints xs, .i a, .i b, .i c, .any] (.int .i64 b) := by
  have h1 := order2_s xs hs a b hab (by omega)
  have h2 := order2_s xs hs b c hbc hc
  (refine AFnV.start Try.func76 Try.ntmps76 rfl (by kernel_rfl) fun hk => ?_; simp only [Env.start, enumF, List.length_cons, List.length_nil, Nat.reduceAdd, Nat.reduceSub, List.cons_append, List.nil_append])
  repeat' (first | (apply AOps.nil; try simp only [List.nil_append, List.cons_append, List.set_cons_zero, List.set_cons_succ, List.length_cons, List.length_nil, Nat.reduceAdd, AV.sh, AV.sh1, AV.sh0, AO.sh, List.map_cons, List.map_nil, Nat.zero_add, Nat.add_zero, setAll]) | (apply w_move; exact rfl; exact rfl) | (apply w_assign; exact rfl; exact rfl) | apply AWp.seq | apply AWp.region | apply AWp.ret | (apply w_call (h1); exact rfl; exact rfl; focus ((repeat (first | exact im_nil | refine im_cons rfl (.any _) ?_ | refine im_cons rfl (.val _) ?_ | refine im_cons rfl (.ints _) ?_)); done)) | (apply w_call (h2); exact rfl; exact rfl; focus ((repeat (first | exact im_nil | refine im_cons rfl (.any _) ?_ | refine im_cons rfl (.val _) ?_ | refine im_cons rfl (.ints _) ?_)); done)) | ((apply w_extv); iterate 3 exact rfl))
  all_goals exact .int Try.results76 rfl rfl
theorem choosePivot_s (xs : List Int) (hs : Srt xs) (h0 : 12 < xs.length) (h1 : xs.length < 50) : AFnV Try.prog 64 [.ints xs, .i 0, .i xs.length] (.tuple #[.int .i64 ((xs.length / 4 * 2 : Nat) : Int), .int .i64 1]) := by
  have hm := median_s xs hs (xs.length / 4) (xs.length / 4 * 2) (xs.length / 4 * 3) (by omega) (by omega) (by omega)
  have e0 : ((xs.length : Int) - 0) = (xs.length : Int) := by omega
  have e1 : (0 : Int) + ((xs.length : Int) - 0) / 4 * 1 = ((xs.length / 4 : Nat) : Int) := by omega
  have e2 : (0 : Int) + ((xs.length : Int) - 0) / 4 * 2 = ((xs.length / 4 * 2 : Nat) : Int) := by omega
  have e3 : (0 : Int) + ((xs.length : Int) - 0) / 4 * 3 = ((xs.length / 4 * 3 : Nat) : Int) := by omega
  rw [← e1, ← e2, ← e3] at hm
  rw [← e2]
  (refine AFnV.start Try.func64 Try.ntmps64 rfl (by kernel_rfl) fun hk => ?_; simp only [Env.start, enumF, List.length_cons, List.length_nil, Nat.reduceAdd, Nat.reduceSub, List.cons_append, List.nil_append])
  repeat' (first | (apply AOps.nil; try simp only [List.nil_append, List.cons_append, List.set_cons_zero, List.set_cons_succ, List.length_cons, List.length_nil, Nat.reduceAdd, AV.sh, AV.sh1, AV.sh0, AO.sh, List.map_cons, List.map_nil, Nat.zero_add, Nat.add_zero, setAll]) | (apply w_move; exact rfl; exact rfl) | (apply w_assign; exact rfl; exact rfl) | apply AWp.seq | apply AWp.region | ((apply AWp.condP; exact rfl) <;> intro h) | apply AWp.block | apply AWp.ret | apply AWp.skip | (apply w_call (hm); exact rfl; exact rfl; focus ((repeat (first | exact im_nil | refine im_cons rfl (.any _) ?_ | refine im_cons rfl (.val _) ?_ | refine im_cons rfl (.ints _) ?_)); done)) | omega | ((first | apply w_geq | apply w_eql | apply w_add | apply w_sub | apply w_mul | apply w_ld); iterate 3 exact rfl) | (apply w_quo; exact rfl; exact rfl; exact rfl; (focus (omega; done)); (focus (omega; done))) | (apply w_ldb; iterate 5 exact rfl) | (apply w_alone; iterate 3 exact rfl) | (apply inI_of <;> omega))
  all_goals first | exact .intint Try.results64 rfl rfl rfl rfl | (exfalso; simp_all; done) | (exfalso; omega)
theorem partial_s (xs : List Int) (hs : Srt xs) (h0 : 12 < xs.length) (h1 : xs.length < 50) : AFnV Try.prog 66 [.ints xs, .i 0, .i xs.length] (.bool true) := by
  (refine AFnV.start Try.func66 Try.ntmps66 rfl (by kernel_rfl) fun hk => ?_; simp only [Env.start, enumF, List.length_cons, List.length_nil, Nat.reduceAdd, Nat.reduceSub, List.cons_append, List.nil_append])
  repeat' (first | (apply AOps.nil; try simp only [List.nil_append, List.cons_append, List.set_cons_zero, List.set_cons_succ, List.length_cons, List.length_nil, Nat.reduceAdd, AV.sh, AV.sh1, AV.sh0, AO.sh, List.map_cons, List.map_nil, Nat.zero_add, Nat.add_zero, setAll]) | (apply w_move; exact rfl; exact rfl) | (apply w_assign; exact rfl; exact rfl) | apply AWp.seq | apply AWp.region | apply AWp.block | ((apply w_add); iterate 3 exact rfl) | (apply inI_of <;> omega))
  refine AWp.loop (ι := Unit) (fun _ => ⟨133, [(0, .ints xs), (1, .i 0), (2, .i xs.length), (7, .i 1), (8, .i 0)]⟩) (fun _ => []) (fun _ => True) (fun _ => 0) () trivial ⟨lee rfl (by (repeat (first | exact le_nil | refine le_eq rfl rfl ?_))), by (repeat (exact lo_nil)), rfl, rfl⟩ ?_
  rintro _ _
  repeat' (first | (apply AOps.nil; try simp only [List.nil_append, List.cons_append, List.set_cons_zero, List.set_cons_succ, List.length_cons, List.length_nil, Nat.reduceAdd, AV.sh, AV.sh1, AV.sh0, AO.sh, List.map_cons, List.map_nil, Nat.zero_add, Nat.add_zero, setAll]) | (apply w_move; exact rfl; exact rfl) | (apply w_assign; exact rfl; exact rfl) | apply AWp.seq | apply AWp.region | ((apply AWp.condP; exact rfl) <;> intro h) | apply AWp.block | apply AWp.ret | apply AWp.exit | apply AWp.skip | omega | ((apply w_lss); iterate 3 exact rfl))
  refine AWp.loop (ι := Nat) (fun p => ⟨133, [(0, .ints xs), (1, .i 0), (2, .i xs.length), (7, .i (p + 1)), (8, .i 0)]⟩) (fun p => []) (fun p => p + 1 ≤ xs.length) (fun p => xs.length - p) 0 (by omega) ⟨lee rfl (by (repeat (first | exact le_nil | refine le_eq rfl rfl ?_))), by (repeat (exact lo_nil)), rfl, rfl⟩ ?_
  rintro p p0
  by_cases hp : p + 1 < xs.length
  · have hle := hs p (p + 1) (by omega) hp
    have e1 : ((p : Int) + 1 - 1) = (p : Nat) := by omega
    have e2 : ((p : Int) + 1) = ((p + 1 : Nat) : Int) := by omega
    rw [← e1, ← e2] at hle
    have hc := less_c (geti xs ((p : Int) + 1)) (geti xs ((p : Int) + 1 - 1))
    rw [decide_eq_false (by omega)] at hc
    repeat' (first | (apply AOps.nil; try simp only [List.nil_append, List.cons_append, List.set_cons_zero, List.set_cons_succ, List.length_cons, List.length_nil, Nat.reduceAdd, AV.sh, AV.sh1, AV.sh0, AO.sh, List.map_cons, List.map_nil, Nat.zero_add, Nat.add_zero, setAll]) | ((apply AOps.splitP; exact rfl; exact rfl) <;> intro h) | (apply w_move; exact rfl; exact rfl) | (apply w_assign; exact rfl; exact rfl) | apply AWp.seq | apply AWp.region | (apply AWp.condT; exact rfl) | (apply AWp.condF; exact rfl) | apply AWp.block | apply AWp.exit | apply AWp.skip | (apply AWp.regionQ; kernel_rfl; kernel_rfl) | (apply w_skip; exact rfl) | (apply w_pickT; exact rfl; exact rfl; exact rfl) | (apply w_pickF; exact rfl; exact rfl; exact rfl) | (apply w_call (hc); exact rfl; exact rfl; focus ((repeat (first | exact im_nil | refine im_cons rfl (.val _) ?_)); done)) | omega | ((first | apply w_lss | apply w_add | apply w_sub | apply w_idx | apply w_ld); iterate 3 exact rfl) | ((apply w_not); iterate 2 exact rfl) | (apply inI_of <;> omega))
    all_goals exact ⟨p + 1, by omega, by omega, ⟨lee rfl (by (repeat (first | exact le_nil | refine le_eq rfl rfl ?_))), by (repeat (exact lo_nil)), rfl, rfl⟩⟩
  · repeat' (first | (apply AOps.nil; try simp only [List.nil_append, List.cons_append, List.set_cons_zero, List.set_cons_succ, List.length_cons, List.length_nil, Nat.reduceAdd, AV.sh, AV.sh1, AV.sh0, AO.sh, List.map_cons, List.map_nil, Nat.zero_add, Nat.add_zero, setAll]) | ((apply AOps.splitP; exact rfl; exact rfl) <;> intro h) | (apply w_move; exact rfl; exact rfl) | (apply w_assign; exact rfl; exact rfl) | apply AWp.seq | apply AWp.region | ((apply AWp.condP; exact rfl) <;> intro h) | (apply AWp.condF; exact rfl) | apply AWp.ret | apply AWp.exit | apply AWp.skip | (apply AWp.regionQ; kernel_rfl; kernel_rfl) | (apply w_skip; exact rfl) | (apply w_pickF; exact rfl; exact rfl; exact rfl) | omega | ((first | apply w_lss | apply w_eql); iterate 3 exact rfl))
    all_goals exact .bool Try.results66 rfl rfl
theorem pdq_s (xs : List Int) (hs : Srt xs) (lim : Int) (hl : 12 < xs.length → 0 < lim) (h1 : xs.length < 50) : AFnU Try.prog 57 [.ints xs, .i 0, .i xs.length, .i lim] [] (fun v os => v = .tuple #[] ∧ os = []) := by
  by_cases h0 : xs.length ≤ 12
  · have hi := insertionSort_s xs hs h0
    (refine AFnUN.start Try.func57 Try.ntmps57 rfl (by kernel_rfl) fun K => ?_; simp only [Env.start, enumF, List.length_cons, List.length_nil, Nat.reduceAdd, Nat.reduceSub, List.cons_append, List.nil_append])
    repeat' (first | (apply AOps.nil; try simp only [List.nil_append, List.cons_append, List.set_cons_zero, List.set_cons_succ, List.length_cons, List.length_nil, Nat.reduceAdd, AV.sh, AV.sh1, AV.sh0, AO.sh, List.map_cons, List.map_nil, Nat.zero_add, Nat.add_zero, setAll]) | (apply w_assign; exact rfl; exact rfl) | apply AWp.seq | apply AWp.region | apply AWp.block)
    refine AWp.loop (ι := Unit) (fun _ => ⟨134, [(0, .ints xs), (1, .i 0), (2, .i xs.length), (3, .i lim), (8, .b true), (9, .b true)]⟩) (fun _ => [.keep 1 K]) (fun _ => True) (fun _ => 0) () trivial ⟨lee rfl (by (repeat (first | exact le_nil | refine le_eq rfl rfl ?_))), by (repeat (first | exact lo_nil | refine lo_eq rfl ?_)), rfl, rfl⟩ ?_
    rintro _ _
    repeat' (first | (apply AOps.nil; try simp only [List.nil_append, List.cons_append, List.set_cons_zero, List.set_cons_succ, List.length_cons, List.length_nil, Nat.reduceAdd, AV.sh, AV.sh1, AV.sh0, AO.sh, List.map_cons, List.map_nil, Nat.zero_add, Nat.add_zero, setAll]) | (apply w_move; exact rfl; exact rfl) | (apply w_assign; exact rfl; exact rfl) | apply AWp.seq | apply AWp.region | ((apply AWp.condP; exact rfl) <;> intro h) | apply AWp.block | apply AWp.ret | apply AWp.skip | (apply w_callu [] (hi); (exact handed0); (focus ((repeat (first | exact imu_nil | refine imu_cons rfl (.val _) ?_ | refine imu_cons rfl (.ints _) ?_)); done)); rintro v os0 ⟨rfl, rfl⟩; try simp only [List.nil_append, List.cons_append, List.set_cons_zero, List.set_cons_succ, List.length_cons, List.length_nil, Nat.reduceAdd, AV.sh, AV.sh1, AV.sh0, AO.sh, List.map_cons, List.map_nil, Nat.zero_add, Nat.add_zero, setAll]) | omega | ((first | apply w_leq | apply w_sub); iterate 3 exact rfl) | (apply inI_of <;> omega))
    all_goals exact ⟨_, _, .unit Try.results57, ⟨rfl, rfl⟩, rfl, rfl, by simp⟩
  · have hc := choosePivot_s xs hs (by omega) h1
    have hp := partial_s xs hs (by omega) h1
    have hl := hl (by omega)
    (refine AFnUN.start Try.func57 Try.ntmps57 rfl (by kernel_rfl) fun K => ?_; simp only [Env.start, enumF, List.length_cons, List.length_nil, Nat.reduceAdd, Nat.reduceSub, List.cons_append, List.nil_append])
    repeat' (first | (apply AOps.nil; try simp only [List.nil_append, List.cons_append, List.set_cons_zero, List.set_cons_succ, List.length_cons, List.length_nil, Nat.reduceAdd, AV.sh, AV.sh1, AV.sh0, AO.sh, List.map_cons, List.map_nil, Nat.zero_add, Nat.add_zero, setAll]) | (apply w_assign; exact rfl; exact rfl) | apply AWp.seq | apply AWp.region | apply AWp.block)
    refine AWp.loop (ι := Unit) (fun _ => ⟨134, [(0, .ints xs), (1, .i 0), (2, .i xs.length), (3, .i lim), (8, .b true), (9, .b true)]⟩) (fun _ => [.keep 1 K]) (fun _ => True) (fun _ => 0) () trivial ⟨lee rfl (by (repeat (first | exact le_nil | refine le_eq rfl rfl ?_))), by (repeat (first | exact lo_nil | refine lo_eq rfl ?_)), rfl, rfl⟩ ?_
    rintro _ _
    repeat' (first | (apply AOps.nil; try simp only [List.nil_append, List.cons_append, List.set_cons_zero, List.set_cons_succ, List.length_cons, List.length_nil, Nat.reduceAdd, AV.sh, AV.sh1, AV.sh0, AO.sh, List.map_cons, List.map_nil, Nat.zero_add, Nat.add_zero, setAll]) | ((apply AOps.splitP; exact rfl; exact rfl) <;> intro h) | (apply w_move; exact rfl; exact rfl) | (apply w_assign; exact rfl; exact rfl) | apply AWp.seq | apply AWp.region | ((apply AWp.condP; exact rfl) <;> intro h) | (apply AWp.condT; exact rfl) | (apply AWp.condF; exact rfl) | apply AWp.block | apply AWp.ret | apply AWp.skip | (apply AWp.regionQ; kernel_rfl; kernel_rfl) | (apply w_skip; exact rfl) | (apply w_pickT; exact rfl; exact rfl; exact rfl) | (apply w_pickF; exact rfl; exact rfl; exact rfl) | (apply w_call (hc); exact rfl; exact rfl; focus ((repeat (first | exact im_nil | refine im_cons rfl (.val _) ?_ | refine im_cons rfl (.ints _) ?_)); done)) | (apply w_call (hp); exact rfl; exact rfl; focus ((repeat (first | exact im_nil | refine im_cons rfl (.val _) ?_ | refine im_cons rfl (.ints _) ?_)); done)) | omega | ((first | apply w_leq | apply w_gtr | apply w_eql | apply w_sub | apply w_extv); iterate 3 exact rfl) | ((apply w_not); iterate 2 exact rfl) | (apply inI_of <;> omega))
    all_goals first | exact ⟨_, _, .unit Try.results57, ⟨rfl, rfl⟩, rfl, rfl, by simp⟩ | (exfalso; simp_all; done)
theorem bitLen_pos {n : Nat} (h : 0 < n) : 0 < Lib.bitLen n := by
  unfold Lib.bitLen
  rw [Lib.bitLenAux]
  split
  · omega
  · omega
theorem sort_s (xs : List Int) (hs : Srt xs) (h1 : xs.length < 50) : AFnU Try.prog 50 [.ints xs] [] (fun v os => v = .tuple #[] ∧ os = []) := by
  have hb := bitsLen_c (xs.length : Int) (by omega) (by omega)
  have hp := pdq_s xs hs (Lib.bitLen (xs.length : Int).toNat) (fun h => by
    have := bitLen_pos (n := (xs.length : Int).toNat) (by omega)
    omega) h1
  (refine AFnUN.start Try.func50 Try.ntmps50 rfl (by kernel_rfl) fun K => ?_; simp only [Env.start, enumF, List.length_cons, List.length_nil, Nat.reduceAdd, Nat.reduceSub, List.cons_append, List.nil_append])
  repeat' (first | (apply AOps.nil; try simp only [List.nil_append, List.cons_append, List.set_cons_zero, List.set_cons_succ, List.length_cons, List.length_nil, Nat.reduceAdd, AV.sh, AV.sh1, AV.sh0, AO.sh, List.map_cons, List.map_nil, Nat.zero_add, Nat.add_zero, setAll]) | (apply w_move; exact rfl; exact rfl) | (apply w_assign; exact rfl; exact rfl) | apply AWp.seq | apply AWp.region | (apply w_len; exact rfl; exact rfl; first | exact .ints _ | exact .intss _ | exact .sli rfl | exact .sls rfl | exact .slr rfl | exact .orow rfl | exact .nil) | ((apply w_convu); iterate 2 exact rfl) | (apply w_call (hb); exact rfl; exact rfl; focus ((repeat (first | exact im_nil | refine im_cons rfl (.val _) ?_)); done)) | (apply w_callu [] (hp); (exact handed0); (focus ((repeat (first | exact imu_nil | refine imu_cons rfl (.val _) ?_ | refine imu_cons rfl (.ints _) ?_)); done)); rintro v os0 ⟨rfl, rfl⟩; try simp only [List.nil_append, List.cons_append, List.set_cons_zero, List.set_cons_succ, List.length_cons, List.length_nil, Nat.reduceAdd, AV.sh, AV.sh1, AV.sh0, AO.sh, List.map_cons, List.map_nil, Nat.zero_add, Nat.add_zero, setAll]) | omega)
  all_goals exact ⟨_, _, .unit Try.results50, ⟨rfl, rfl⟩, rfl, rfl, by simp⟩
end Go.Proofs.Ythjkpmjdkcainaa
/-
  A row of own rows that grows in its place. No condition.
-/
namespace Go.Proofs.Ythjkpmjdkcainaa
open Go Go.RowKit

theorem ownsRow_lower {w : World} {base base' : Nat} {e : TypeId} {size : Nat} {v : Value} {n : Nat} {xs : List Value} (h : w.ownsRow base e size v n xs) (hb : base' ≤ base) : w.ownsRow base' e size v n xs := by
  obtain ⟨h1, h2⟩ := h
  refine ⟨h1, ?_⟩
  rcases h2 with h2 | ⟨g, cap, cur, hv, hb1, r⟩
  · exact .inl h2
  · exact .inr ⟨g, cap, cur, hv, Nat.le_trans hb hb1, r⟩
/-- Own rows, of which row i has grown and is not yet back in its cell. -/
def PendP (e e2 : TypeId) (xss : List (List Int)) (i : Nat) (base : Nat) (w : World) (g : Gh) : Prop :=
  ∃ (cs : List Value) (bs : List (List Nat)) (mb : List Nat), w.ownsRow base e 1 g.v cs.length cs ∧ cs.length = xss.length ∧ bs.length = xss.length ∧ g.rows.length = xss.length ∧ (∀ j : Nat, j ≠ i → g.rows[j]? = cs[j]?) ∧
    (∀ (j : Nat) u, g.rows[j]? = some u → w.ownsRow base e2 1 u (xss.getD j []).length ((xss.getD j []).map (Value.int .i64)) ∧ (∀ x ∈ xss.getD j [], inI x) ∧ u.ownBlock.toList = bs.getD j []) ∧
    ((g.v.ownBlock = none ∧ mb = []) ∨ (g.v.ownBlock = some g.b ∧ mb = [g.b])) ∧ g.bl = mb ++ bs.flatten ∧ g.bl.Nodup
theorem mem_main {g : Gh} {mb : List Nat} (h : (g.v.ownBlock = none ∧ mb = []) ∨ (g.v.ownBlock = some g.b ∧ mb = [g.b])) {k : Nat} (hk : g.v.ownBlock = some k) : k ∈ mb := by
  rcases h with ⟨h1, _⟩ | ⟨h1, h2⟩
  · rw [h1] at hk; cases hk
  · rw [h1] at hk; cases hk; rw [h2]; simp
theorem mem_row {bs : List (List Nat)} {j : Nat} {u : Value} (hj : j < bs.length) (h : u.ownBlock.toList = bs.getD j []) {k : Nat} (hk : u.ownBlock = some k) : k ∈ bs.flatten := by
  refine List.mem_flatten.2 ⟨bs.getD j [], ?_, by rw [← h, hk]; simp⟩
  rw [List.getD_eq_getElem?_getD, List.getElem?_eq_getElem hj]; exact List.getElem_mem _
def pendOb (e e2 : TypeId) (xss : List (List Int)) (i : Nat) : Ob where
  p := PendP e e2 xss i
  up {base w w' g} hb h := by
    obtain ⟨cs, bs, mb, a1, a2, a3, a4, a5, a6, a7, a8, a9⟩ := h
    refine ⟨cs, bs, mb, ownsRow_of_block a1 fun k hk => hb k (by rw [a8]; exact List.mem_append.2 (.inl (mem_main a7 hk))), a2, a3, a4, a5, fun j u hu => ?_, a7, a8, a9⟩
    obtain ⟨r1, r2, r3⟩ := a6 j u hu
    have hj := (List.getElem?_eq_some_iff.1 hu).1
    exact ⟨ownsRow_of_block r1 fun k hk => hb k (by rw [a8]; exact List.mem_append.2 (.inr (mem_row (by omega) r3 hk))), r2, r3⟩
  lower hl h := by
    obtain ⟨cs, bs, mb, a1, a2, a3, a4, a5, a6, a7, a8, a9⟩ := h
    exact ⟨cs, bs, mb, ownsRow_lower a1 hl, a2, a3, a4, a5, fun j u hu => ⟨ownsRow_lower (a6 j u hu).1 hl, (a6 j u hu).2⟩, a7, a8, a9⟩
  one h := by
    obtain ⟨cs, bs, mb, a1, _⟩ := h
    obtain ⟨a, c, e⟩ := ownsRow_slice a1
    rw [e]; exact ⟨rfl, rfl⟩

theorem nodup_setrow {mb : List Nat} {bs : List (List Nat)} {i : Nat} {c : List Nat} (h : (mb ++ bs.flatten).Nodup) (hi : i < bs.length) (hc : c.Nodup) (hn : ∀ x ∈ c, x ∈ bs.getD i [] ∨ x ∉ mb ++ bs.flatten) : (mb ++ (bs.set i c).flatten).Nodup := by
  rw [flatten_set c hi]
  rw [flatten_at hi] at h hn
  generalize (bs.take i).flatten = A at *
  generalize (bs.drop (i + 1)).flatten = B at *
  generalize bs.getD i [] = R at *
  simp only [List.nodup_append, List.mem_append] at h hn ⊢
  obtain ⟨h1, ⟨h2, ⟨h3, h4, h5⟩, h6⟩, h7⟩ := h
  refine ⟨h1, ⟨h2, ⟨hc, h4, fun a ha b hb e => ?_⟩, fun a ha b hb e => ?_⟩, fun a ha b hb e => ?_⟩
  · subst e
    rcases hn a ha with hr | hr
    · exact h5 a hr a hb rfl
    · exact hr (.inr (.inr (.inr hb)))
  · subst e
    rcases hb with hb | hb
    · rcases hn a hb with hr | hr
      · exact h6 a ha a (.inl hr) rfl
      · exact hr (.inr (.inl ha))
    · exact h6 a ha a (.inr hb) rfl
  · subst e
    rcases hb with hb | hb | hb
    · exact h7 a ha a (.inl hb) rfl
    · rcases hn a hb with hr | hr
      · exact h7 a ha a (.inr (.inl hr)) rfl
      · exact hr (.inl ha)
    · exact h7 a ha a (.inr (.inr hb)) rfl
theorem getD_set_if (xss : List (List Int)) (i j : Nat) (ys : List Int) (hi : i < xss.length) : (xss.set i ys).getD j [] = if j = i then ys else xss.getD j [] := by
  simp only [List.getD_eq_getElem?_getD, List.getElem?_set]
  by_cases e : i = j
  · subst e; simp [hi]
  · have e' : ¬ j = i := fun h => e h.symm
    simp [e, e']
theorem getD_set_ifn (bs : List (List Nat)) (i j : Nat) (c : List Nat) (hi : i < bs.length) : (bs.set i c).getD j [] = if j = i then c else bs.getD j [] := by
  simp only [List.getD_eq_getElem?_getD, List.getElem?_set]
  by_cases e : i = j
  · subst e; simp [hi]
  · have e' : ¬ j = i := fun h => e h.symm
    simp [e, e']

section
variable {P : Program} {env : Env} {os : List AO} {d : Option Tmp} {ty : TypeId} {pos : String} {af : Array Edge} {g : Option (Nat × Bool)}
set_option maxHeartbeats 2000000 in
/-- Numbers are appended to a row. -/
theorem l_append_orow {t2 e2' : TypeId} {bytes : Nat} [ht : TSlice P t2 e2'] [he : TElem P e2' (.int .i64 0) bytes] {x y : Operand} {h i k : Nat} {e e2 e3 : TypeId} {xss : List (List Int)} {ys : List Int} (hx : AV.ev env x = .orow h i) (hs : os[h]? = some (.sls e e2 xss)) (hi : i < xss.length) (he2 : e2 = e2')
    (hy : AV.ev env y = .own k) (hk : os[k]? = some (.sli e3 ys)) (hhk : (h == k) = false) (hp : 0 < ys.length) (hb : ((xss.getD i []).length + ys.length) * bytes ≤ 140737488355328) :
    LOp P ⟨d, .call { callee := .builtin .append, args := #[x, y], argTypes := #[t2, t2] }, ty, pos, af, g⟩ env os (.orow h i) (env.mp (AV.noRow h)) (((os.map (AO.via (AV.noRow h) h)).set h (.ob (pendOb e e2 (xss.set i (xss.getD i [] ++ ys)) i))).set k .dead) := by
  subst he2
  have hne : h ≠ k := by simpa using hhk
  intro base w gs tm hr
  have hxv := hr.ev x
  have hyv := hr.ev y
  rw [hx] at hxv
  rw [hy] at hyv
  generalize hv : Act.eval ⟨tm, []⟩ x = v at hxv
  generalize hu : Act.eval ⟨tm, []⟩ y = u at hyv
  cases hxv with
  | @orow _ _ gh _ hg hrow =>
  cases hyv with
  | @own _ gk hgk =>
    obtain ⟨vs, bs, mb, a1, a2, a3, a4, a5, a6, a7, a8⟩ := hr.ho _ _ _ hg hs
    obtain ⟨b1, b2, b3⟩ := hr.ho _ _ _ hgk hk
    have hrv : vs[i]? = some v := by rw [← a4]; exact hrow
    obtain ⟨r1, r2, r3⟩ := a5 i v hrv
    have hiv : i < vs.length := by omega
    have hib : i < bs.length := by omega
    obtain ⟨bk, ck, q1, q2, q3, q4⟩ := own_slice b1 (i := 0) (by simpa using hp)
    have hcells : ∀ (j : Nat) z, (ys.map (Value.int .i64))[j]? = some z → w.cell? ((⟨bk, 0, none⟩ : Addr).add j) = some z := by
      intro j z hz
      have hj := (List.getElem?_eq_some_iff.1 hz).1
      obtain ⟨bk', ck', p1, p2, p3, _⟩ := own_slice b1 (i := j) hj
      have eb : bk' = bk := by rw [q2] at p2; exact (Option.some.inj p2).symm
      subst eb
      rw [add_none, Nat.zero_add, p3]; exact hz
    obtain ⟨ii, hi', hsz, hz, hby⟩ := he.info
    have hml : (xss.getD i []).length + ys.length ≤ maxLen := by
      have hb0 := he.pos
      have : (xss.getD i []).length + ys.length ≤ ((xss.getD i []).length + ys.length) * bytes := Nat.le_mul_of_pos_right _ hb0
      simp only [maxLen]; omega
    obtain ⟨v', w', s1, s2, s3, _, s5⟩ := run_append_own_at (P := P) w base t2 ty e2 ii _ 1 bytes ht.und hi' hz hsz hby rfl (by omega) v _ _ r1 ⟨bk, 0, none⟩ ys.length ck (ys.map (Value.int .i64)) (by simp) hcells
      (fun z hz => by obtain ⟨n, _, rfl⟩ := List.mem_map.1 hz; rfl) hml hb hr.hb
    have hsub : ∀ b, v.ownBlock = some b → b ∈ bs.flatten := fun b hb => mem_row hib r3 hb
    have hgl : ∀ b, b ∈ gh.bl → b < w.heap.size := fun b hb => (hr.hn _ _ _ hg hs (by simp) b hb).2
    have hother : ∀ c, c < w.heap.size → c ∉ gh.bl → w'.heap[c]? = w.heap[c]? := fun c hc hcb => s3.block c hc fun e => hcb (by rw [a7]; exact List.mem_append.2 (.inr (hsub c e.symm)))
    have hvo : ∀ b, v'.ownBlock = some b → (v.ownBlock = some b ∨ b = w.heap.size) ∧ b < w'.heap.size := fun b hb => by
      refine ⟨?_, ?_⟩
      · rcases s5 with s5 | s5
        · left; rw [← s5]; exact hb
        · right; rw [s5] at hb; exact (Option.some.inj hb).symm
      · rcases s2.2 with ⟨e1, _⟩ | ⟨gg, cc, cur, e1, _, hgg, _⟩
        · rw [e1] at hb; cases hb
        · rw [e1] at hb; cases hb; exact (Array.getElem?_eq_some_iff.1 hgg).1
    let g' : Gh := ⟨gh.v, gh.b, mb ++ (bs.set i v'.ownBlock.toList).flatten, gh.rows.set i v'⟩
    have hhg : h < gs.length := (List.getElem?_eq_some_iff.1 hg).1
    have sv : SameV h gs (gs.set h g') := by
      refine ⟨fun j z hj hz => ?_, fun z hz => ⟨g', by simp [hhg], ?_⟩⟩
      · rw [List.getElem?_set, if_neg (fun e => hj e.symm)]; exact hz
      · rw [hg] at hz; cases hz; exact ⟨rfl, rfl⟩
    have hmem : ∀ c, c ∈ g'.bl → c ∈ gh.bl ∨ c = w.heap.size ∧ c < w'.heap.size := by
      intro c hc
      rcases List.mem_append.1 hc with hc | hc
      · left; rw [a7]; exact List.mem_append.2 (.inl hc)
      · rw [flatten_set _ hib] at hc
        rcases List.mem_append.1 hc with hc | hc
        · left; rw [a7, flatten_at hib]; simp [hc]
        · rcases List.mem_append.1 hc with hc | hc
          · have hc' : v'.ownBlock = some c := by
              cases hvb : v'.ownBlock with
              | none => rw [hvb] at hc; simp at hc
              | some z => rw [hvb] at hc; simp at hc; rw [hc]
            obtain ⟨h1, h2⟩ := hvo c hc'
            rcases h1 with h1 | h1
            · left; rw [a7]; exact List.mem_append.2 (.inr (hsub c h1))
            · exact .inr ⟨h1, h2⟩
          · left; rw [a7, flatten_at hib]; simp [hc]
    refine ⟨v', w', gs.set h g', .inl ?_, hr.absorb hg hs trivial hgk hk trivial hne g' _ (AV.noRow h) rfl hother s3.size ?_ (fun kp hv => hv.noRow kp sv) ?_, ?_, ?_⟩
    · simp only [execOp, resolve, invoke, builtin, Sem.run_bind, Sem.run_pure, Result.andThen_ok, List.map_toArray, List.map_cons, List.map_nil, hv, hu, q1, s1]
    · intro c hc
      rcases hmem c hc with h1 | ⟨h1, h2⟩
      · exact ⟨.inl h1, Nat.lt_of_lt_of_le (hgl c h1) s3.size⟩
      · exact ⟨.inr (.inr (Nat.le_of_eq h1.symm)), h2⟩
    · intro kp
      have a8' := a8
      rw [a7] at a8'
      have hnot : ∀ c, c < w.heap.size → v.ownBlock ≠ some c → w'.heap[c]? = w.heap[c]? := fun c hc hn => s3.block c hc fun e => hn e.symm
      refine ⟨vs, bs.set i v'.ownBlock.toList, mb, ?_, by simp [a2], by simp [a3], by simp [g', a4, a2], fun j hj => ?_, fun j z hz => ?_, a6, rfl, ?_⟩
      · refine ownsRow_of_block a1 fun c hc => hnot c (hgl c (by rw [a7]; exact List.mem_append.2 (.inl (mem_main a6 hc)))) fun e => ?_
        exact (List.nodup_append.1 a8').2.2 c (mem_main a6 hc) c (hsub c e) rfl
      · show (gh.rows.set i v')[j]? = _
        rw [List.getElem?_set, if_neg (fun e => hj e.symm), a4]
      · have hz' : (gh.rows.set i v')[j]? = some z := hz
        rw [List.getElem?_set] at hz'
        rw [getD_set_if _ _ _ _ hi, getD_set_ifn _ _ _ _ hib]
        by_cases e : j = i
        · subst e
          rw [if_pos rfl, if_pos (by rw [a4]; exact hiv)] at hz'
          cases hz'
          rw [if_pos rfl, if_pos rfl]
          refine ⟨by rw [List.length_append, List.map_append]; exact s2, fun n hn => ?_, rfl⟩
          rcases List.mem_append.1 hn with hn | hn
          · exact r2 n hn
          · exact b2 n hn
        · rw [if_neg (fun e' => e e'.symm), a4] at hz'
          rw [if_neg e, if_neg e]
          obtain ⟨t1, t2, t3⟩ := a5 j z hz'
          have hjl := (List.getElem?_eq_some_iff.1 hz').1
          refine ⟨ownsRow_of_block t1 fun c hc => hnot c (hgl c (by rw [a7]; exact List.mem_append.2 (.inr (mem_row (by omega) t3 hc)))) fun ev => ?_, t2, t3⟩
          have hfl := (List.nodup_append.1 a8').2.1
          have c1 : c ∈ bs.getD j [] := by rw [← t3, hc]; simp
          have c2 : c ∈ bs.getD i [] := by rw [← r3, ev]; simp
          have hpw := (List.pairwise_flatten.1 hfl).2
          rw [List.getD_eq_getElem?_getD, List.getElem?_eq_getElem (by omega)] at c1 c2
          have hpw' := List.pairwise_iff_getElem.1 hpw
          rcases Nat.lt_or_gt_of_ne e with hlt | hlt
          · exact hpw' j i (by omega) hib hlt c c1 c c2 rfl
          · exact hpw' i j hib (by omega) hlt c c2 c c1 rfl
      · refine nodup_setrow a8' hib ?_ fun c hc => ?_
        · cases v'.ownBlock <;> simp
        · have hc' : v'.ownBlock = some c := by
            cases hvb : v'.ownBlock with
            | none => rw [hvb] at hc; simp at hc
            | some z => rw [hvb] at hc; simp at hc; rw [hc]
          rcases (hvo c hc').1 with h1 | h1
          · left; rw [← r3, h1]; simp
          · right; intro hm
            have := hgl c (by rw [a7]; exact hm)
            omega
    · have hr' : (gh.rows.set i v')[i]? = some v' := by rw [List.getElem?_set, if_pos rfl, if_pos (by rw [a4]; exact hiv)]
      exact RV.orow (g := g') (by simp [hhg]) hr'
    · refine ⟨s3.os, s3.tape, s3.output, s3.size, fun b hb => s3.block b (by have := hr.hb; omega) fun e => ?_⟩
      have := (hr.hn _ _ _ hg hs (by simp) b (by rw [a7]; exact List.mem_append.2 (.inr (hsub b e.symm)))).1
      omega

/-- A grown row goes back into its cell. -/
theorem l_store_pend {t : TypeId} [ht : TCell P t] {x y : Operand} {h i : Nat} {e e2 : TypeId} {xss : List (List Int)} (hx : AV.ev env x = .optr h i) (hs : os[h]? = some (.ob (pendOb e e2 xss i))) (hi : i < xss.length) (hy : AV.ev env y = .orow h i) :
    LOp P ⟨d, .store t x y, ty, pos, af, g⟩ env os .any env (os.set h (.sls e e2 xss)) := by
  intro base w gs tm hr
  have hxv := hr.ev x
  have hyv := hr.ev y
  rw [hx] at hxv
  rw [hy] at hyv
  generalize hv : Act.eval ⟨tm, []⟩ x = v at hxv
  generalize hu : Act.eval ⟨tm, []⟩ y = u at hyv
  cases hxv with
  | @optr _ _ gh hg =>
  cases hyv with
  | @orow _ _ gh2 _ hg2 hrow =>
    have egg : gh2 = gh := by rw [hg] at hg2; exact (Option.some.inj hg2).symm
    subst egg
    obtain ⟨cs, bs, mb, a1, a2, a3, a4, a5, a6, a7, a8, a9⟩ := hr.ho _ _ _ hg hs
    obtain ⟨r1, r2, r3⟩ := a6 i u hrow
    obtain ⟨ua, uc, eu⟩ := ownsRow_slice r1
    have hic : i < cs.length := by omega
    obtain ⟨b, cap, e1, e2', e3', e4⟩ := own_slice a1 (i := i) hic
    have emb : mb = [gh2.b] ∧ gh2.v.ownBlock = some gh2.b := by
      rcases a7 with ⟨c1, _⟩ | ⟨c1, c2⟩
      · rw [c1] at e2'; cases e2'
      · exact ⟨c2, c1⟩
    have eb : gh2.b = b := by rw [emb.2] at e2'; exact Option.some.inj e2'
    have hcell : w.cell? ⟨gh2.b, i, none⟩ = some cs[i] := by rw [eb, e3']; simp [hic]
    have a1' := a1
    rw [e1] at a1'
    have hst := a1'.stored i u
    have hgb : gh2.b ∈ gh2.bl := by rw [a8, emb.1]; simp
    have hap : ∀ c, c ≠ gh2.b → (w.setCell ⟨b, i, none⟩ u).heap[c]? = w.heap[c]? := fun c hc => heap_setCell_other w ⟨b, i, none⟩ c u (fun e' => hc (by rw [eb]; exact e'))
    have hother : ∀ c, c < w.heap.size → c ∉ gh2.bl → (w.setCell ⟨b, i, none⟩ u).heap[c]? = w.heap[c]? := fun c _ hcb => hap c fun e => hcb (e ▸ hgb)
    have erows : cs.set i u = gh2.rows := by
      apply List.ext_getElem?
      intro j
      rw [List.getElem?_set]
      by_cases ej : i = j
      · subst ej; rw [if_pos rfl, if_pos hic, hrow]
      · rw [if_neg ej]; exact (a5 j (fun e => ej e.symm)).symm
    refine ⟨undef, w.setCell ⟨b, i, none⟩ u, gs, .inr ⟨?_, rfl⟩, hr.upd hg hs trivial _ trivial hother hst.2.size fun kp => ?_, .any _, ?_⟩
    · have := run_store_cell (P := P) (t := t) (a := ⟨gh2.b, i, none⟩) hcell (by rw [eb]; exact e4) (v := u) (by rw [eu]; rfl) (by rw [eu]; rfl)
      rw [eb] at this hv
      simp only [execOp, hv, hu, Sem.run_bind, this, Result.andThen_ok, Sem.run_pure]
    · refine ⟨gh2.rows, bs, mb, ?_, a4, a3, rfl, fun j z hz => ?_, a7, a8, a9⟩
      · rw [← erows, List.length_set, e1]; exact hst.1
      · obtain ⟨t1, t2, t3⟩ := a6 j z hz
        have hjl := (List.getElem?_eq_some_iff.1 hz).1
        refine ⟨ownsRow_of_block t1 fun c hc => hap c fun ec => ?_, t2, t3⟩
        have hm := mem_row (bs := bs) (by omega) t3 hc
        rw [a8] at a9
        exact (List.nodup_append.1 a9).2.2 gh2.b (by rw [emb.1]; simp) c hm ec.symm
    · have hbb : base ≤ b := by rw [← eb]; exact (hr.hn _ _ _ hg hs (by simp) gh2.b hgb).1
      exact (Below.refl _ _).setCell (p := ⟨b, i, none⟩) hbb _
end

section
variable {P : Program} {env : Env} {os : List AO} {d : Option Tmp} {ty : TypeId} {pos : String} {af : Array Edge} {g : Option (Nat × Bool)} {wl : Bool}
theorem q_idx_pend {t e0 : TypeId} [ht : TSlice P t e0] [he : TCell P e0] {x y : Operand} {h k : Nat} {e e2 : TypeId} {xss : List (List Int)} {i : Int} (hx : AV.ev env x = .own h) (hs : os[h]? = some (.ob (pendOb e e2 xss k))) (hy : AV.ev env y = .i i) (h0 : 0 ≤ i) (h1 : i < xss.length) :
    QOp P wl ⟨d, .indexAddr t x y, ty, pos, af, g⟩ env os (.optr h i.toNat) :=
  .of_run fun _ w gs tm hr => by
    have hh := hr.ev x
    rw [hx] at hh
    generalize hv : Act.eval ⟨tm, []⟩ x = v at hh
    cases hh with
    | @own _ gh hg =>
      refine ⟨_, .optr hg, fun w' _ => ?_⟩
      obtain ⟨cap, e1⟩ : ∃ cap, gh.v = .slice (some ⟨gh.b, 0, none⟩) xss.length cap := by
        obtain ⟨cs, bs, mb, a1, a2, a3, a4, a5, a6, a7, _⟩ := hr.ho _ _ _ hg hs
        obtain ⟨b, cap, e1, e2, _⟩ := own_slice a1 (i := i.toNat) (by omega)
        have : gh.b = b := by
          rcases a7 with ⟨h1, _⟩ | ⟨h1, _⟩
          · rw [h1] at e2; cases e2
          · rw [h1] at e2; cases e2; rfl
        rw [this, ← a2]; exact ⟨cap, e1⟩
      obtain ⟨ie, hi, hs1⟩ := he.info
      have hrun := run_idx ht.und hi hs1 ⟨gh.b, 0, none⟩ xss.length cap i h0 h1 w'
      simp only [execOp, hv, e1, hr.evv hy, Sem.run_bind, hrun, add_none, Nat.zero_add, Result.andThen_ok, Sem.run_pure]
end
section
variable {P : Program} {env : Env} {os : List AO} {d : Tmp} {ty : TypeId} {pos : String} {af : Array Edge} {g : Option (Nat × Bool)} {l rest : List Oper} {K : APost} {q : Md}
theorem w_apporow {t2 e2' : TypeId} {bytes : Nat} [TSlice P t2 e2'] [TElem P e2' (.int .i64 0) bytes] {x y : Operand} {h i k : Nat} {e e2 e3 : TypeId} {xss : List (List Int)} {ys : List Int} (hx : evo env x = some (.orow h i)) (hs : os[h]? = some (.sls e e2 xss)) (he2 : e2 = e2')
    (hy : evo env y = some (.own k)) (hk : os[k]? = some (.sli e3 ys)) (hhk : (h == k) = false) (hi : i < xss.length) (hp : 0 < ys.length) (hb : ((xss.getD i []).length + ys.length) * bytes ≤ 140737488355328)
    (h' : AOps P .seq l rest K (Env.up (env.mp (AV.noRow h)) d (.orow h i)) (((os.map (AO.via (AV.noRow h) h)).set h (.ob (pendOb e e2 (xss.set i (xss.getD i [] ++ ys)) i))).set k .dead)) :
    AOps P .seq l (⟨some d, .call { callee := .builtin .append, args := #[x, y], argTypes := #[t2, t2] }, ty, pos, af, none⟩ :: rest) K env os := AOps.lo (l_append_orow (ev_of hx) hs hi he2 (ev_of hy) hk hhk hp hb) h'
theorem w_idxpend {t e0 : TypeId} [TSlice P t e0] [TCell P e0] {x y : Operand} {h k : Nat} {e e2 : TypeId} {xss : List (List Int)} {i : Int} (hw : wantedA l env ⟨some d, .indexAddr t x y, ty, pos, af, g⟩ = some true) (hx : evo env x = some (.own h)) (hs : os[h]? = some (.ob (pendOb e e2 xss k))) (hy : evo env y = some (.i i)) (h0 : 0 ≤ i) (h1 : i < xss.length)
    (h' : AOps P q l rest K (env.up d (.optr h i.toNat)) os) : AOps P q l (⟨some d, .indexAddr t x y, ty, pos, af, g⟩ :: rest) K env os := AOps.qo hw (q_idx_pend (ev_of hx) hs (ev_of hy) h0 h1) h'
theorem w_stpend {t : TypeId} [TCell P t] {x y : Operand} {h i j : Nat} {e e2 : TypeId} {xss : List (List Int)} (hx : evo env x = some (.optr h j)) (hs : os[h]? = some (.ob (pendOb e e2 xss i))) (hy : evo env y = some (.orow h i)) (hj : j = i) (hi : i < xss.length)
    (h' : AOps P .seq l rest K env (os.set h (.sls e e2 xss))) : AOps P .seq l (⟨none, .store t x y, ty, pos, af, none⟩ :: rest) K env os := AOps.so (l_store_pend (ev_of (by rw [← hj]; exact hx)) hs hi (ev_of hy)) h'
end
end Go.Proofs.Ythjkpmjdkcainaa
/-
  The neighbours of all vertices. Condition: edges of a forest of at most 40 vertices.
-/
namespace Go.Proofs.Ythjkpmjdkcainaa
open Go Go.RowKit
attribute [local irreducible] AWp AOps ResIs Ret1 QOp LOp COp AFnV AFn Imms LeE LeO
set_option maxHeartbeats 1000000
set_option linter.unusedSimpArgs false
set_option linter.unusedVariables false

/-- The neighbours of all vertices, as the edges A tell them. -/
def nbL (n : Nat) (A : List (List Int)) : List (List Int) := (List.range n).map fun (v : Nat) => nearE A (v : Nat)
theorem nbL_len (n : Nat) (A : List (List Int)) : (nbL n A).length = n := by simp [nbL]
theorem nbL_get {n : Nat} {A : List (List Int)} {v : Nat} (h : v < n) : (nbL n A).getD v [] = nearE A (v : Nat) := by
  unfold nbL; rw [List.getD_eq_getElem?_getD, List.getElem?_map, List.getElem?_range h]; rfl
theorem nearE_snoc (A : List (List Int)) (e : List Int) (v : Int) : nearE (A ++ [e]) v = nearE A v ++ ((if geti e 0 = v then [geti e 1] else []) ++ (if geti e 1 = v then [geti e 0] else [])) := by
  unfold nearE; rw [List.flatMap_append]; simp
theorem nearE_len (A : List (List Int)) (v : Int) : (nearE A v).length ≤ 2 * A.length := by
  induction A with
  | nil => simp [nearE]
  | cons e A ih =>
    have : nearE (e :: A) v = ((if geti e 0 = v then [geti e 1] else []) ++ (if geti e 1 = v then [geti e 0] else [])) ++ nearE A v := by simp [nearE]
    rw [this, List.length_append, List.length_append, List.length_cons]
    split <;> split <;> simp <;> omega
theorem nb_step {n : Nat} {A : List (List Int)} {e : List Int} (he : EIn n e) {R1 : List (List Int)} (h1 : R1 = (nbL n A).set (geti e 0).toNat ((nbL n A).getD (geti e 0).toNat [] ++ [geti e 1])) :
    R1.set (geti e 1).toNat (R1.getD (geti e 1).toNat [] ++ [geti e 0]) = nbL n (A ++ [e]) := by
  obtain ⟨a1, a2, a3, a4⟩ := he
  have l0 := nbL_len n A
  have l1 : R1.length = n := by rw [h1, List.length_set]; exact l0
  apply List.ext_getElem?
  intro v
  by_cases hv : v < n
  · have g0 : (nbL n (A ++ [e]))[v]? = some (nearE (A ++ [e]) (v : Nat)) := by
      unfold nbL; rw [List.getElem?_map, List.getElem?_range hv]; rfl
    have g1 : ∀ u : Nat, u < n → R1.getD u [] = if u = (geti e 0).toNat then nearE A (u : Nat) ++ [geti e 1] else nearE A (u : Nat) := by
      intro u hu
      rw [h1, getD_set_if _ _ _ _ (by omega)]
      split
      · subst_vars; rw [nbL_get (by omega)]
      · exact nbL_get hu
    have g2 : (R1.set (geti e 1).toNat (R1.getD (geti e 1).toNat [] ++ [geti e 0]))[v]? = some (if v = (geti e 1).toNat then R1.getD (geti e 1).toNat [] ++ [geti e 0] else R1.getD v []) := by
      rw [List.getElem?_set]
      by_cases ev : (geti e 1).toNat = v
      · subst ev; rw [if_pos rfl, if_pos (by omega), if_pos rfl]
      · rw [if_neg ev, if_neg (fun h => ev h.symm), List.getD_eq_getElem?_getD, List.getElem?_eq_getElem (by omega)]; rfl
    rw [g0, g2, nearE_snoc]
    congr 1
    rw [g1 _ (by omega), g1 _ hv]
    by_cases e1 : v = (geti e 1).toNat
    · subst e1
      rw [if_pos rfl, if_neg (by omega), if_neg (by omega), if_pos (by omega)]; rfl
    · rw [if_neg e1]
      by_cases e0 : v = (geti e 0).toNat
      · subst e0
        rw [if_pos rfl, if_pos (by omega), if_neg (by omega)]; simp
      · rw [if_neg e0, if_neg (by omega), if_neg (by omega)]; simp
  · rw [List.getElem?_eq_none (by rw [List.length_set]; omega), List.getElem?_eq_none (by rw [nbL_len]; omega)]

/-- A forest of at most 40 vertices. -/
structure GrF (W : List Int) (E : List (List Int)) : Prop where
  n : 1 ≤ W.length ∧ W.length ≤ 40
  w : ∀ v : Int, -1000 ≤ geti W v ∧ geti W v ≤ 1000
  fo : FoE W.length E
  e : E.length ≤ 40
theorem GrF.at {W : List Int} {E : List (List Int)} (h : GrF W E) (k : Nat) (hk : k < E.length) : EIn W.length (gets E (k : Nat)) := h.fo.row _ (gets_mem (by omega) (by omega))
/-- All neighbours. -/
def nbs (W : List Int) (E : List (List Int)) : List (List Int) := (List.range W.length).map fun (v : Nat) => nearL E (v : Nat)
theorem nbs_eq {W : List Int} {E : List (List Int)} (h : GrF W E) : nbL W.length E = nbs W E := by
  unfold nbL nbs
  refine List.map_congr_left fun v _ => nearE_eq h.fo.row h.fo.srt _
theorem nbs_get {W : List Int} {E : List (List Int)} {v : Nat} (h : v < W.length) : (nbs W E).getD v [] = nearL E (v : Nat) := by
  unfold nbs; rw [List.getD_eq_getElem?_getD, List.getElem?_map, List.getElem?_range h]; rfl
theorem near_len {W : List Int} {E : List (List Int)} (h : GrF W E) (v : Int) : (nearL E v).length ≤ 40 := by
  have := nd_len (n := W.length) (h.fo.fst.nd v) (fun x hx => (h.fo.fst.bnd v x hx).1)
  have := h.n; omega

set_option maxHeartbeats 8000000 in
theorem neighboursOf_c (W : List Int) (E : List (List Int)) (h : GrF W E) : AFn Try.prog 34 [.agg [.ints W, .intss E]] (IsIntss 24 2 (nbs W E)) := by
  have hn := h.n
  have hE := h.e
  (refine AFn.start Try.func34 Try.ntmps34 rfl (by kernel_rfl) fun hk => ?_; simp only [Env.start, enumF, List.length_cons, List.length_nil, Nat.reduceAdd, Nat.reduceSub, List.cons_append, List.nil_append])
  repeat' (first | (apply AOps.nil; try simp only [List.nil_append, List.cons_append, List.set_cons_zero, List.set_cons_succ, List.length_cons, List.length_nil, Nat.reduceAdd, AV.sh, AV.sh1, AV.sh0, AO.sh, List.map_cons, List.map_nil, Nat.zero_add, Nat.add_zero, setAll]) | (apply w_move; exact rfl; exact rfl) | (apply w_assign; exact rfl; exact rfl) | apply AWp.seq | apply AWp.region | apply AWp.block | (apply w_len; exact rfl; exact rfl; first | exact .ints _ | exact .intss _ | exact .sli rfl | exact .sls rfl | exact .slr rfl | exact .orow rfl | exact .nil) | omega | ((first | apply w_ld | apply w_fa); iterate 3 exact rfl) | ((apply w_boxa); iterate 2 exact rfl) | (apply w_ldb; iterate 5 exact rfl) | (apply w_mkr; exact rfl; exact rfl; rotate_left 3; exact rfl; rotate_left 1))
  have e0 : List.replicate (W.length : Int).toNat ([] : List Int) = nbL W.length (E.take 0) := by
    apply List.ext_getElem (by simp [nbL])
    intro i h1 h2
    simp [nbL, nearE]
  rw [e0]
  refine AWp.loop (ι := Nat) (fun k => ⟨62, [(3, .own 1), (13, .intss E), (14, .i E.length), (15, .i k)]⟩) (fun k => [.bx 27 [.ints W, .intss E], .sls 24 2 (nbL W.length (E.take k))]) (fun k => k ≤ E.length) (fun k => E.length - k) 0 (by omega) ⟨lee rfl (by (repeat (first | exact le_nil | refine le_eq rfl rfl ?_))), by (repeat (first | exact lo_nil | refine lo_eq rfl ?_)), rfl, rfl⟩ ?_
  rintro k k0
  have hl := nbL_len W.length (E.take k)
  by_cases hk : k < E.length
  · obtain ⟨a1, a2, a3, a4⟩ := h.at k hk
    have hst := fun R1 => nb_step (A := E.take k) (R1 := R1) (h.at k hk)
    have et : E.take k ++ [gets E (k : Nat)] = E.take (k + 1) := by rw [List.take_succ_eq_append_getElem hk]; simp [gets, hk]
    rw [et] at hst
    have q0 : ((nbL W.length (E.take k)).getD (geti (gets E (k : Nat)) 0).toNat []).length ≤ 80 := by
      rw [nbL_get (by omega)]
      have := nearE_len (E.take k) (((geti (gets E (k : Nat)) 0).toNat : Nat) : Int)
      rw [List.length_take] at this; omega
    have q1 : ((nbL W.length (E.take k)).getD (geti (gets E (k : Nat)) 1).toNat []).length ≤ 80 := by
      rw [nbL_get (by omega)]
      have := nearE_len (E.take k) (((geti (gets E (k : Nat)) 1).toNat : Nat) : Int)
      rw [List.length_take] at this; omega
    generalize nbL W.length (E.take k) = R at *
    repeat' (first | (apply AOps.nil; try simp only [List.nil_append, List.cons_append, List.set_cons_zero, List.set_cons_succ, List.length_cons, List.length_nil, Nat.reduceAdd, AV.sh, AV.sh1, AV.sh0, AO.sh, List.map_cons, List.map_nil, Nat.zero_add, Nat.add_zero, setAll]) | (apply w_move; exact rfl; exact rfl) | (apply w_assign; exact rfl; exact rfl) | apply AWp.seq | apply AWp.region | ((apply AWp.condP; exact rfl) <;> intro h) | apply AWp.block | apply AWp.exit | apply AWp.skip | (apply w_len; exact rfl; exact rfl; first | exact .ints _ | exact .intss _ | exact .sli rfl | exact .sls rfl | exact .slr rfl | exact .orow rfl | exact .nil) | omega | ((first | apply w_lss | apply w_idx | apply w_ld); iterate 3 exact rfl) | ((first | apply w_idxs | apply w_lds); iterate 3 exact rfl))
    generalize gets E (k : Nat) = e at *
    obtain ⟨R1, eR1⟩ : ∃ R1, R1 = R.set (geti e 0).toNat (R.getD (geti e 0).toNat [] ++ [geti e 1]) := ⟨_, rfl⟩
    have hR1 := hst R1 eR1
    have l1 : R1.length = W.length := by rw [eR1, List.length_set]; exact hl
    have q2 : (R1.getD (geti e 1).toNat []).length ≤ 81 := by
      rw [eR1, getD_set_if _ _ _ _ (by omega)]
      split
      · rw [List.length_append, List.length_singleton]; omega
      · omega
    have b0 : ((R.getD (geti e 0).toNat []).length + [geti e 1].length) * 8 ≤ 140737488355328 := by rw [List.length_singleton]; omega
    have b1 : ((R1.getD (geti e 1).toNat []).length + [geti e 0].length) * 8 ≤ 140737488355328 := by rw [List.length_singleton]; omega
    refine AWp.regionG [] (by kernel_rfl) (envC := ⟨62, [(3, .own 1), (5, .ints e), (13, .intss E), (14, .i E.length), (15, .i k)]⟩) (osC := [.bx 27 [.ints W, .intss E], .sls 24 2 R1]) rfl rfl ?_ ?_
    · rw [eR1]
      repeat' (first | (apply AOps.nil; try simp only [List.nil_append, List.cons_append, List.set_cons_zero, List.set_cons_succ, List.length_cons, List.length_nil, Nat.reduceAdd, AV.sh, AV.sh1, AV.sh0, AO.sh, List.map_cons, List.map_nil, Nat.zero_add, Nat.add_zero, setAll]) | (apply w_move; exact rfl; exact rfl) | (apply w_apporow; exact rfl; exact rfl; exact rfl; exact rfl; exact rfl; exact rfl; rotate_left 3; simp only [Env.mp, List.map_cons, List.map_nil, List.set_cons_zero, List.set_cons_succ, AV.kill, AV.kill1, AO.kill, AV.noRow, AV.noRow1, AO.via, reduceIte, Nat.reduceEqDiff, Nat.reduceLT, Env.up, Nat.zero_ne_one, Nat.one_ne_zero, Nat.reduceAdd, List.cons_append, List.nil_append]; rotate_left 3) | (apply w_idxpend; iterate 4 exact rfl) | (apply w_stpend; exact rfl; exact rfl; exact rfl; exact rfl; rotate_left 1; simp only [Env.mp, List.map_cons, List.map_nil, List.set_cons_zero, List.set_cons_succ, AV.kill, AV.kill1, AO.kill, AV.noRow, AV.noRow1, AO.via, reduceIte, Nat.reduceEqDiff, Nat.reduceLT, Env.up, Nat.zero_ne_one, Nat.one_ne_zero, Nat.reduceAdd, List.cons_append, List.nil_append]; rotate_left 1) | apply AllOfG.nil | (apply AllOfG.consQ; exact rfl; exact rfl) | (apply AllOfG.consS; exact rfl; exact rfl) | (apply AAnyG.takeW; exact rfl; exact rfl; kernel_rfl; kernel_rfl) | (apply AAnyG.takeL; exact rfl; exact rfl; kernel_rfl) | (apply AAnyG.all; exact rfl) | (apply AAnyG.done; exact rfl) | omega | ((first | apply w_idx | apply w_ld); iterate 3 exact rfl) | ((apply w_bs1); iterate 2 exact rfl) | (apply w_idxo; exact rfl; exact rfl; (exact .sls rfl); exact rfl) | (apply w_ldls; iterate 4 exact rfl) | (apply inI_of <;> omega) | (simp <;> omega))
      all_goals (apply Or.inl; refine ⟨lee rfl ?_, ?_, rfl, rfl⟩; (focus ((repeat (first | exact le_nil | refine le_eq rfl rfl ?_)); done)); (focus ((repeat (first | exact lo_nil | refine lo_eq rfl ?_)); done)))
    clear eR1 hst
    repeat' (apply AOps.nil; try simp only [List.nil_append, List.cons_append, List.set_cons_zero, List.set_cons_succ, List.length_cons, List.length_nil, Nat.reduceAdd, AV.sh, AV.sh1, AV.sh0, AO.sh, List.map_cons, List.map_nil, Nat.zero_add, Nat.add_zero, setAll])
    refine AWp.regionG [] (by kernel_rfl) (envC := ⟨62, [(3, .own 1), (13, .intss E), (14, .i E.length), (15, .i k)]⟩) (osC := [.bx 27 [.ints W, .intss E], .sls 24 2 (R1.set (geti e 1).toNat (R1.getD (geti e 1).toNat [] ++ [geti e 0]))]) rfl rfl ?_ ?_
    · repeat' (first | (apply AOps.nil; try simp only [List.nil_append, List.cons_append, List.set_cons_zero, List.set_cons_succ, List.length_cons, List.length_nil, Nat.reduceAdd, AV.sh, AV.sh1, AV.sh0, AO.sh, List.map_cons, List.map_nil, Nat.zero_add, Nat.add_zero, setAll]) | (apply w_move; exact rfl; exact rfl) | (apply w_apporow; exact rfl; exact rfl; exact rfl; exact rfl; exact rfl; exact rfl; rotate_left 3; simp only [Env.mp, List.map_cons, List.map_nil, List.set_cons_zero, List.set_cons_succ, AV.kill, AV.kill1, AO.kill, AV.noRow, AV.noRow1, AO.via, reduceIte, Nat.reduceEqDiff, Nat.reduceLT, Env.up, Nat.zero_ne_one, Nat.one_ne_zero, Nat.reduceAdd, List.cons_append, List.nil_append]; rotate_left 3) | (apply w_idxpend; iterate 4 exact rfl) | (apply w_stpend; exact rfl; exact rfl; exact rfl; exact rfl; rotate_left 1; simp only [Env.mp, List.map_cons, List.map_nil, List.set_cons_zero, List.set_cons_succ, AV.kill, AV.kill1, AO.kill, AV.noRow, AV.noRow1, AO.via, reduceIte, Nat.reduceEqDiff, Nat.reduceLT, Env.up, Nat.zero_ne_one, Nat.one_ne_zero, Nat.reduceAdd, List.cons_append, List.nil_append]; rotate_left 1) | apply AllOfG.nil | (apply AllOfG.consQ; exact rfl; exact rfl) | (apply AllOfG.consS; exact rfl; exact rfl) | (apply AAnyG.takeW; exact rfl; exact rfl; kernel_rfl; kernel_rfl) | (apply AAnyG.takeL; exact rfl; exact rfl; kernel_rfl) | (apply AAnyG.all; exact rfl) | (apply AAnyG.done; exact rfl) | omega | ((first | apply w_idx | apply w_ld); iterate 3 exact rfl) | ((apply w_bs1); iterate 2 exact rfl) | (apply w_idxo; exact rfl; exact rfl; (exact .sls rfl); exact rfl) | (apply w_ldls; iterate 4 exact rfl) | (apply inI_of <;> omega) | (simp <;> omega))
      all_goals (apply Or.inl; refine ⟨lee rfl ?_, ?_, rfl, rfl⟩; (focus ((repeat (first | exact le_nil | refine le_eq rfl rfl ?_)); done)); (focus ((repeat (first | exact lo_nil | refine lo_eq rfl ?_)); done)))
    repeat' (first | (apply AOps.nil; try simp only [List.nil_append, List.cons_append, List.set_cons_zero, List.set_cons_succ, List.length_cons, List.length_nil, Nat.reduceAdd, AV.sh, AV.sh1, AV.sh0, AO.sh, List.map_cons, List.map_nil, Nat.zero_add, Nat.add_zero, setAll]) | (apply w_move; exact rfl; exact rfl) | apply AWp.region | ((apply w_add); iterate 3 exact rfl) | (apply inI_of <;> omega))
    exact ⟨k + 1, by omega, by omega, ⟨lee rfl (by (repeat (first | exact le_nil | refine le_eq rfl rfl ?_))), by (repeat (first | exact lo_nil | refine lo_eq rfl ?_ | refine lo_eq (congrArg (AO.sls _ _) (hR1)) ?_)), rfl, rfl⟩⟩
  · have ek : k = E.length := by omega
    subst ek
    rw [List.take_length, nbs_eq h]
    rw [List.take_length, nbs_eq h] at hl
    have hs : ∀ v : Nat, v < W.length → AFnU Try.prog 50 [.ints ((nbs W E).getD (v : Int).toNat [])] [] (fun v os => v = .tuple #[] ∧ os = []) := fun v hv => by
      rw [Int.toNat_natCast, nbs_get hv]
      exact sort_s _ (srt_of (h.fo.fst.srt _)) (by have := near_len h (v : Nat); omega)
    generalize nbs W E = R at *
    repeat' (first | (apply AOps.nil; try simp only [List.nil_append, List.cons_append, List.set_cons_zero, List.set_cons_succ, List.length_cons, List.length_nil, Nat.reduceAdd, AV.sh, AV.sh1, AV.sh0, AO.sh, List.map_cons, List.map_nil, Nat.zero_add, Nat.add_zero, setAll]) | (apply w_move; exact rfl; exact rfl) | apply AWp.seq | apply AWp.region | ((apply AWp.condP; exact rfl) <;> intro h) | apply AWp.block | apply AWp.exit | apply AWp.skip | (apply w_len; exact rfl; exact rfl; first | exact .ints _ | exact .intss _ | exact .sli rfl | exact .sls rfl | exact .slr rfl | exact .orow rfl | exact .nil) | omega | ((apply w_lss); iterate 3 exact rfl))
    refine AWp.loop (ι := Nat) (fun v => ⟨62, [(3, .own 1), (52, .own 1), (53, .i W.length), (54, .i v)]⟩) (fun v => [.bx 27 [.ints W, .intss E], .sls 24 2 R]) (fun v => v ≤ W.length) (fun v => W.length - v) 0 (by omega) ⟨lee rfl (by (repeat (first | exact le_nil | refine le_eq rfl rfl ?_ | refine le_eq rfl (congrArg AV.i (by omega)) ?_))), by (repeat (first | exact lo_nil | refine lo_eq rfl ?_)), rfl, rfl⟩ ?_
    rintro v v0
    by_cases hv : v < W.length
    · have hsv := hs v hv
      repeat' (first | (apply AOps.nil; try simp only [List.nil_append, List.cons_append, List.set_cons_zero, List.set_cons_succ, List.length_cons, List.length_nil, Nat.reduceAdd, AV.sh, AV.sh1, AV.sh0, AO.sh, List.map_cons, List.map_nil, Nat.zero_add, Nat.add_zero, setAll]) | (apply w_move; exact rfl; exact rfl) | (apply w_assign; exact rfl; exact rfl) | apply AWp.seq | apply AWp.region | ((apply AWp.condP; exact rfl) <;> intro h) | apply AWp.block | apply AWp.ret | apply AWp.exit | apply AWp.skip | (apply w_callu [] (hsv); (exact handed0); (focus ((repeat (first | exact imu_nil | refine imu_cons rfl (.orow rfl (by decide)) ?_)); done)); rintro v os0 ⟨rfl, rfl⟩; try simp only [List.nil_append, List.cons_append, List.set_cons_zero, List.set_cons_succ, List.length_cons, List.length_nil, Nat.reduceAdd, AV.sh, AV.sh1, AV.sh0, AO.sh, List.map_cons, List.map_nil, Nat.zero_add, Nat.add_zero, setAll]) | omega | ((first | apply w_lss | apply w_add | apply w_idx | apply w_ld); iterate 3 exact rfl) | (apply w_idxo; exact rfl; exact rfl; (exact .sls rfl); exact rfl) | (apply w_ldls; iterate 4 exact rfl) | (apply inI_of <;> omega))
      exact ⟨v + 1, by omega, by omega, ⟨lee rfl (by (repeat (first | exact le_nil | refine le_eq rfl rfl ?_))), by (repeat (first | exact lo_nil | refine lo_eq rfl ?_)), rfl, rfl⟩⟩
    · repeat' (first | (apply AOps.nil; try simp only [List.nil_append, List.cons_append, List.set_cons_zero, List.set_cons_succ, List.length_cons, List.length_nil, Nat.reduceAdd, AV.sh, AV.sh1, AV.sh0, AO.sh, List.map_cons, List.map_nil, Nat.zero_add, Nat.add_zero, setAll]) | (apply w_move; exact rfl; exact rfl) | (apply w_assign; exact rfl; exact rfl) | apply AWp.seq | apply AWp.region | ((apply AWp.condP; exact rfl) <;> intro h) | apply AWp.block | apply AWp.ret | apply AWp.exit | apply AWp.skip | omega | ((apply w_lss); iterate 3 exact rfl))
      exact ⟨_, _, _, .v1 Try.results34 rfl, .sls rfl, rfl, rfl⟩
end Go.Proofs.Ythjkpmjdkcainaa
/-
  The search in depth, walked. Condition: a forest of at most 40 vertices.
-/
namespace Go.Proofs.Ythjkpmjdkcainaa
open Go Go.RowKit
attribute [local irreducible] AWp AOps ResIs Ret1 QOp LOp COp AFnV AFn Imms LeE LeO
set_option maxHeartbeats 1000000
set_option linter.unusedSimpArgs false
set_option linter.unusedVariables false

def stV (p r f g : Int) : Value := if okS p r f g = true then .tuple #[.int .i64 (p * f), .int .i64 (r * f - p * g)] else .tuple #[.int .i64 0, .int .i64 0]
def stS (s : WS) (p r f g : Int) : WS := if okS p r f g = true then s else s.big
theorem okS_iff (p r f g : Int) : okS p r f g = (tok r f && tok p g && tok p f && decide (-1000000000000 ≤ tmV r f - tmV p g ∧ tmV r f - tmV p g ≤ 1000000000000)) := by
  unfold okS
  cases h1 : tok r f
  · rfl
  · cases h2 : tok p g
    · rfl
    · have e1 : tmV r f = r * f := by unfold tmV; rw [if_pos h1]
      have e2 : tmV p g = p * g := by unfold tmV; rw [if_pos h2]
      rw [e1, e2]
theorem step_c (W : List Int) (N : List (List Int)) (s : WS) (p r f g : Int) (hp : inM p) (hr : inM r) (hf : inM f) (hg : inM g) :
    AFnB Try.prog 51 69 2 4 W N [.int .i64 p, .int .i64 r, .int .i64 f, .int .i64 g] s (stS s p r f g) (stV p r f g) := by
  have c1 := times_c r f hr hf
  have c2 := times_c p g hp hg
  have c3 := times_c p f hp hf
  have b1 := tmV_in r f
  have b2 := tmV_in p g
  have cv := isValue_c (tmV r f - tmV p g)
  have hok := okS_iff p r f g
  unfold inM at b1 b2
  have e1 : tok r f = true → tmV r f = r * f := fun h => by unfold tmV; rw [if_pos h]
  have e2 : tok p g = true → tmV p g = p * g := fun h => by unfold tmV; rw [if_pos h]
  have e3 : tok p f = true → tmV p f = p * f := fun h => by unfold tmV; rw [if_pos h]
  (refine AFnB.start Try.func51 Try.ntmps51 rfl (by kernel_rfl) fun K vW vN => ?_; simp only [wkL, Env.start, enumF, List.map_cons, List.map_nil, List.length_cons, List.length_nil, Nat.reduceAdd, Nat.reduceSub, Nat.zero_add, List.cons_append, List.nil_append])
  cases h1 : tok r f with
  | false =>
    rw [h1] at c1 hok
    have hk : okS p r f g = false := by rw [hok]; rfl
    have es : stS s p r f g = s.big := by unfold stS; rw [hk]; rfl
    have ev : stV p r f g = .tuple #[.int .i64 0, .int .i64 0] := by unfold stV; rw [hk]; rfl
    rw [es, ev]
    repeat' (first | (apply AOps.nil; try simp only [List.nil_append, List.cons_append, List.set_cons_zero, List.set_cons_succ, List.length_cons, List.length_nil, Nat.reduceAdd, AV.sh, AV.sh1, AV.sh0, AO.sh, List.map_cons, List.map_nil, Nat.zero_add, Nat.add_zero, setAll]) | (apply w_move; exact rfl; exact rfl) | (apply w_assign; exact rfl; exact rfl) | apply AWp.seq | apply AWp.region | (apply AWp.condT; exact rfl) | apply AWp.ret | (apply w_skip; exact rfl) | (apply w_pickT; exact rfl; exact rfl; exact rfl) | ((first | apply w_nilck | apply w_not); iterate 2 exact rfl) | ((first | apply w_fa | apply w_extv); iterate 3 exact rfl) | (apply w_call (c1); exact rfl; exact rfl; focus ((repeat (first | exact im_nil | refine im_cons rfl (.val _) ?_)); done)) | (apply w_call (c2); exact rfl; exact rfl; focus ((repeat (first | exact im_nil | refine im_cons rfl (.val _) ?_)); done)) | (apply w_call (c3); exact rfl; exact rfl; focus ((repeat (first | exact im_nil | refine im_cons rfl (.val _) ?_)); done)) | (apply w_stbv; iterate 6 exact rfl))
    all_goals first | exact ⟨.intint Try.results51 rfl rfl rfl rfl, [], rfl⟩ | (exfalso; simp_all; done)
  | true =>
    rw [h1] at c1 hok
    cases h2 : tok p g with
    | false =>
      rw [h2] at c2 hok
      have hk : okS p r f g = false := by rw [hok]; rfl
      have es : stS s p r f g = s.big := by unfold stS; rw [hk]; rfl
      have ev : stV p r f g = .tuple #[.int .i64 0, .int .i64 0] := by unfold stV; rw [hk]; rfl
      rw [es, ev]
      repeat' (first | (apply AOps.nil; try simp only [List.nil_append, List.cons_append, List.set_cons_zero, List.set_cons_succ, List.length_cons, List.length_nil, Nat.reduceAdd, AV.sh, AV.sh1, AV.sh0, AO.sh, List.map_cons, List.map_nil, Nat.zero_add, Nat.add_zero, setAll]) | (apply w_move; exact rfl; exact rfl) | (apply w_assign; exact rfl; exact rfl) | apply AWp.seq | apply AWp.region | (apply AWp.condT; exact rfl) | apply AWp.ret | (apply w_skip; exact rfl) | (apply w_pickT; exact rfl; exact rfl; exact rfl) | (apply w_pickF; exact rfl; exact rfl; exact rfl) | ((first | apply w_nilck | apply w_not); iterate 2 exact rfl) | ((first | apply w_fa | apply w_extv); iterate 3 exact rfl) | (apply w_call (c1); exact rfl; exact rfl; focus ((repeat (first | exact im_nil | refine im_cons rfl (.val _) ?_)); done)) | (apply w_call (c2); exact rfl; exact rfl; focus ((repeat (first | exact im_nil | refine im_cons rfl (.val _) ?_)); done)) | (apply w_call (c3); exact rfl; exact rfl; focus ((repeat (first | exact im_nil | refine im_cons rfl (.val _) ?_)); done)) | (apply w_stbv; iterate 6 exact rfl))
      all_goals first | exact ⟨.intint Try.results51 rfl rfl rfl rfl, [], rfl⟩ | (exfalso; simp_all; done)
    | true =>
      rw [h2] at c2 hok
      cases h3 : tok p f with
      | false =>
        rw [h3] at c3 hok
        have hk : okS p r f g = false := by rw [hok]; rfl
        have es : stS s p r f g = s.big := by unfold stS; rw [hk]; rfl
        have ev : stV p r f g = .tuple #[.int .i64 0, .int .i64 0] := by unfold stV; rw [hk]; rfl
        rw [es, ev]
        repeat' (first | (apply AOps.nil; try simp only [List.nil_append, List.cons_append, List.set_cons_zero, List.set_cons_succ, List.length_cons, List.length_nil, Nat.reduceAdd, AV.sh, AV.sh1, AV.sh0, AO.sh, List.map_cons, List.map_nil, Nat.zero_add, Nat.add_zero, setAll]) | (apply w_move; exact rfl; exact rfl) | (apply w_assign; exact rfl; exact rfl) | apply AWp.seq | apply AWp.region | (apply AWp.condT; exact rfl) | apply AWp.ret | (apply w_skip; exact rfl) | (apply w_pickT; exact rfl; exact rfl; exact rfl) | (apply w_pickF; exact rfl; exact rfl; exact rfl) | ((first | apply w_nilck | apply w_not); iterate 2 exact rfl) | ((first | apply w_fa | apply w_extv); iterate 3 exact rfl) | (apply w_call (c1); exact rfl; exact rfl; focus ((repeat (first | exact im_nil | refine im_cons rfl (.val _) ?_)); done)) | (apply w_call (c2); exact rfl; exact rfl; focus ((repeat (first | exact im_nil | refine im_cons rfl (.val _) ?_)); done)) | (apply w_call (c3); exact rfl; exact rfl; focus ((repeat (first | exact im_nil | refine im_cons rfl (.val _) ?_)); done)) | (apply w_stbv; iterate 6 exact rfl))
        all_goals first | exact ⟨.intint Try.results51 rfl rfl rfl rfl, [], rfl⟩ | (exfalso; simp_all; done)
      | true =>
        rw [h3] at c3 hok
        cases h4 : decide (-1000000000000 ≤ tmV r f - tmV p g ∧ tmV r f - tmV p g ≤ 1000000000000) with
        | false =>
          rw [h4] at cv hok
          have hk : okS p r f g = false := by rw [hok]; rfl
          have es : stS s p r f g = s.big := by unfold stS; rw [hk]; rfl
          have ev : stV p r f g = .tuple #[.int .i64 0, .int .i64 0] := by unfold stV; rw [hk]; rfl
          rw [es, ev]
          repeat' (first | (apply AOps.nil; try simp only [List.nil_append, List.cons_append, List.set_cons_zero, List.set_cons_succ, List.length_cons, List.length_nil, Nat.reduceAdd, AV.sh, AV.sh1, AV.sh0, AO.sh, List.map_cons, List.map_nil, Nat.zero_add, Nat.add_zero, setAll]) | (apply w_move; exact rfl; exact rfl) | (apply w_assign; exact rfl; exact rfl) | apply AWp.seq | apply AWp.region | (apply AWp.condT; exact rfl) | apply AWp.ret | (apply w_pickF; exact rfl; exact rfl; exact rfl) | ((first | apply w_nilck | apply w_not); iterate 2 exact rfl) | ((first | apply w_sub | apply w_fa | apply w_extv); iterate 3 exact rfl) | (apply w_call (c1); exact rfl; exact rfl; focus ((repeat (first | exact im_nil | refine im_cons rfl (.val _) ?_)); done)) | (apply w_call (c2); exact rfl; exact rfl; focus ((repeat (first | exact im_nil | refine im_cons rfl (.val _) ?_)); done)) | (apply w_call (c3); exact rfl; exact rfl; focus ((repeat (first | exact im_nil | refine im_cons rfl (.val _) ?_)); done)) | (apply w_call (cv); exact rfl; exact rfl; focus ((repeat (first | exact im_nil | refine im_cons rfl (.val _) ?_)); done)) | (apply w_stbv; iterate 6 exact rfl) | (apply inI_of <;> omega))
          all_goals first | exact ⟨.intint Try.results51 rfl rfl rfl rfl, [], rfl⟩ | (exfalso; simp_all; done)
        | true =>
          rw [h4] at cv hok
          have hk : okS p r f g = true := by rw [hok]; rfl
          have es : stS s p r f g = s := by unfold stS; rw [if_pos hk]
          have ev : stV p r f g = .tuple #[.int .i64 (tmV p f), .int .i64 (tmV r f - tmV p g)] := by unfold stV; rw [if_pos hk, e1 h1, e2 h2, e3 h3]
          rw [es, ev]
          repeat' (first | (apply AOps.nil; try simp only [List.nil_append, List.cons_append, List.set_cons_zero, List.set_cons_succ, List.length_cons, List.length_nil, Nat.reduceAdd, AV.sh, AV.sh1, AV.sh0, AO.sh, List.map_cons, List.map_nil, Nat.zero_add, Nat.add_zero, setAll]) | (apply w_move; exact rfl; exact rfl) | (apply w_assign; exact rfl; exact rfl) | apply AWp.seq | apply AWp.region | (apply AWp.condF; exact rfl) | apply AWp.ret | apply AWp.skip | (apply w_pickF; exact rfl; exact rfl; exact rfl) | ((apply w_not); iterate 2 exact rfl) | ((first | apply w_sub | apply w_extv); iterate 3 exact rfl) | (apply w_call (c1); exact rfl; exact rfl; focus ((repeat (first | exact im_nil | refine im_cons rfl (.val _) ?_)); done)) | (apply w_call (c2); exact rfl; exact rfl; focus ((repeat (first | exact im_nil | refine im_cons rfl (.val _) ?_)); done)) | (apply w_call (c3); exact rfl; exact rfl; focus ((repeat (first | exact im_nil | refine im_cons rfl (.val _) ?_)); done)) | (apply w_call (cv); exact rfl; exact rfl; focus ((repeat (first | exact im_nil | refine im_cons rfl (.val _) ?_)); done)) | (apply inI_of <;> omega))
          all_goals first | exact ⟨.intint Try.results51 rfl rfl rfl rfl, [], rfl⟩ | (exfalso; simp_all; done)
end Go.Proofs.Ythjkpmjdkcainaa
/-
  A visit of the search in depth, walked. Condition: a forest of at most 40 vertices.
-/
namespace Go.Proofs.Ythjkpmjdkcainaa
open Go Go.RowKit
attribute [local irreducible] AWp AOps ResIs Ret1 QOp LOp COp AFnV AFn Imms LeE LeO
set_option maxHeartbeats 1000000
set_option linter.unusedSimpArgs false
set_option linter.unusedVariables false

theorem sn_get (s : WS) (c : Int) : s.sn c = s.s.getD c.toNat false := rfl
theorem lpF_seen {vis : Int → WS → WS} {c : Int} {cs : List Int} {s : WS} {p r : Int} (h : s.sn c = true) : lpF vis (c :: cs) s p r = lpF vis cs s p r := by rw [lpF, if_pos h]
theorem lpF_new {vis : Int → WS → WS} {c : Int} {cs : List Int} {s : WS} {p r : Int} (h : s.sn c = false) (hok : okS p r (geti (vis c s).f c) (geti (vis c s).g c) = true) : lpF vis (c :: cs) s p r = lpF vis cs (vis c s) (p * geti (vis c s).f c) (r * geti (vis c s).f c - p * geti (vis c s).g c) := by
  rw [lpF, if_neg (by rw [h]; simp), if_pos hok]
theorem lpF_big {vis : Int → WS → WS} {c : Int} {cs : List Int} {s : WS} {p r : Int} (h : s.sn c = false) (hok : ¬ okS p r (geti (vis c s).f c) (geti (vis c s).g c) = true) : lpF vis (c :: cs) s p r = lpF vis cs (vis c s).big 0 0 := by
  rw [lpF, if_neg (by rw [h]; simp), if_neg hok]
theorem drop_geti {xs : List Int} {i : Nat} (h : i < xs.length) : xs.drop i = geti xs (i : Nat) :: xs.drop (i + 1) := by
  rw [List.drop_eq_getElem_cons h]; simp [geti, List.getD_eq_getElem?_getD, List.getElem?_eq_getElem h]
theorem geti_memo {xs : List Int} {v : Int} {n : Nat} (hl : xs.length = n) (h : ∀ x ∈ xs, inM x) (h0 : 0 ≤ v ∧ v < n) : inM (geti xs v) := h _ (geti_mem h0.1 (by omega))

set_option maxHeartbeats 16000000 in
theorem visit_c (W : List Int) (E : List (List Int)) (h : GrF W E) : ∀ (k : Nat) (v : Int) (s : WS), WOk W.length s → s.cnt ≤ k → 0 ≤ v ∧ v < W.length → s.sn v = false →
    AFnB Try.prog 35 69 2 4 W (nbs W E) [.int .i64 v] s (visF W (nearL E) k v s) (.tuple #[])
  | 0, v, s, hs, hk, hv, hn => by have := cnt_pos hs.ls hv hn; omega
  | k + 1, v, s, hs, hk, hv, hn => by
    have ih := visit_c W E h k
    have hw := h.w v
    have hnn := h.n
    have hm := cnt_mark hs.ls hv hn
    have hF := h.fo.fst
    have hnb : gets (nbs W E) v = nearL E v := by
      obtain ⟨m, rfl⟩ := Int.eq_ofNat_of_zero_le hv.1
      have := nbs_get (W := W) (E := E) (v := m) (by omega)
      simpa [gets] using this
    have hnl : (nbs W E).length = W.length := by simp [nbs]
    have hne := near_len h v
    have hrng : ∀ i : Nat, i < (nearL E v).length → 0 ≤ geti (nearL E v) (i : Nat) ∧ geti (nearL E v) (i : Nat) < W.length := fun i hi => (hF.bnd v _ (geti_mem (by omega) (by omega))).1
    have hvo : ∀ (c : Int) (t : WS), WOk W.length t → t.cnt ≤ k → 0 ≤ c ∧ c < W.length → t.sn c = false → WOk W.length (visF W (nearL E) k c t) ∧ WLe t (visF W (nearL E) k c t) := visF_ok h.w hF k
    have okm := ok_mark hs v
    have hms : s.s.set v.toNat true = (s.mark v).s := rfl
    show AFnB _ _ _ _ _ _ _ _ _ ((lpF (visF W (nearL E) k) (nearL E v) (s.mark v) 1 (-geti W v)).1.put v (lpF (visF W (nearL E) k) (nearL E v) (s.mark v) 1 (-geti W v)).2.1 (lpF (visF W (nearL E) k) (nearL E v) (s.mark v) 1 (-geti W v)).2.2) _
    generalize hT : lpF (visF W (nearL E) k) (nearL E v) (s.mark v) 1 (-geti W v) = T
    have ls := hs.ls
    have lf := hs.lf
    have lg := hs.lg
    (refine AFnB.start Try.func35 Try.ntmps35 rfl (by kernel_rfl) fun K vW vN => ?_; simp only [wkL, Env.start, enumF, List.map_cons, List.map_nil, List.length_cons, List.length_nil, Nat.reduceAdd, Nat.reduceSub, Nat.zero_add, List.cons_append, List.nil_append])
    repeat' (first | (apply AOps.nil; try simp only [List.nil_append, List.cons_append, List.set_cons_zero, List.set_cons_succ, List.length_cons, List.length_nil, Nat.reduceAdd, AV.sh, AV.sh1, AV.sh0, AO.sh, List.map_cons, List.map_nil, Nat.zero_add, Nat.add_zero, setAll]) | (apply w_move; exact rfl; exact rfl) | apply AWp.seq | apply AWp.region | (apply w_idxb; iterate 4 exact rfl) | (apply w_stb; exact rfl; exact rfl; rotate_left 1; exact rfl; rotate_left 1) | ((apply w_nilck); iterate 2 exact rfl) | ((first | apply w_ld | apply w_fa); iterate 3 exact rfl) | omega | (apply w_ldb; iterate 5 exact rfl))
    rw [hms]
    refine AWp.regionQ (by kernel_rfl) (by kernel_rfl) ?_
    repeat' (first | (apply AOps.nil; try simp only [List.nil_append, List.cons_append, List.set_cons_zero, List.set_cons_succ, List.length_cons, List.length_nil, Nat.reduceAdd, AV.sh, AV.sh1, AV.sh0, AO.sh, List.map_cons, List.map_nil, Nat.zero_add, Nat.add_zero, setAll]) | (apply w_move; exact rfl; exact rfl) | (apply w_assign; exact rfl; exact rfl) | apply AWp.seq | apply AWp.region | apply AWp.block | (apply w_len; exact rfl; exact rfl; first | exact .ints _ | exact .intss _ | exact .sli rfl | exact .sls rfl | exact .slr rfl | exact .orow rfl | exact .nil) | (apply w_ldbi; iterate 5 exact rfl) | (apply w_ldbn; iterate 5 exact rfl) | ((first | apply w_nilck | apply w_neg); iterate 2 exact rfl) | ((first | apply w_idx | apply w_ld | apply w_fa); iterate 3 exact rfl) | omega | ((first | apply w_idxs | apply w_lds); iterate 3 exact rfl) | (apply inI_of <;> omega))
    rw [hnb, show (0 : Int) - geti W v = -geti W v by omega]
    generalize hNv : nearL E v = nv at *
    refine AWp.loop (ι := Nat × WS × Int × Int) (fun x => ⟨81, [(0, .optr 1 0), (1, .i v), (4, .i x.2.2.1), (5, .i x.2.2.2), (28, .ints nv), (29, .i nv.length), (30, .i x.1)]⟩) (fun x => [.keep 5 K, .bx 69 [.ro (roI vW W), .ro (roN vN (nbs W E)), .own 2, .own 3, .own 4, .b x.2.1.l], .sli 2 x.2.1.f, .sli 2 x.2.1.g, .slr 4 (bL x.2.1.s)])
      (fun x => x.1 ≤ nv.length ∧ lpF (visF W (nearL E) k) (nv.drop x.1) x.2.1 x.2.2.1 x.2.2.2 = T ∧ WOk W.length x.2.1 ∧ x.2.1.cnt ≤ k ∧ inM x.2.2.1 ∧ inM x.2.2.2) (fun x => nv.length - x.1) (0, s.mark v, 1, -geti W v) ⟨by simp only; omega, hT, okm, by simp only; omega, by simp only [inM]; omega, by simp only [inM]; omega⟩ ⟨lee rfl (by (repeat (first | exact le_nil | refine le_eq rfl rfl ?_))), by (repeat (first | exact lo_nil | refine lo_eq rfl ?_)), rfl, (by first | exact rfl | (simp [AO.lim, AV.lim, bL_lim]; done))⟩ ?_
    rintro ⟨i, t, p, r⟩ ⟨i0, i1, i2, i3, i4, i5⟩
    simp only at i0 i1 i2 i3 i4 i5
    have hvo' := hvo
    have lt1 := i2.ls
    have lt2 := i2.lf
    have lt3 := i2.lg
    by_cases hi : i < nv.length
    · obtain ⟨c0, c1⟩ := hrng i hi
      rw [drop_geti hi] at i1
      cases hsc : t.sn (geti nv (i : Nat)) with
      | true =>
        rw [lpF_seen hsc] at i1
        rw [sn_get] at hsc
        repeat' (first | (apply AOps.nil; try simp only [List.nil_append, List.cons_append, List.set_cons_zero, List.set_cons_succ, List.length_cons, List.length_nil, Nat.reduceAdd, AV.sh, AV.sh1, AV.sh0, AO.sh, List.map_cons, List.map_nil, Nat.zero_add, Nat.add_zero, setAll]) | (apply w_move; exact rfl; exact rfl) | (apply w_assign; exact rfl; exact rfl) | apply AWp.seq | apply AWp.region | ((apply AWp.condP; exact rfl) <;> intro h) | ((apply AWp.condB; exact rfl) <;> intro h) | apply AWp.block | apply AWp.exit | apply AWp.skip | (apply if_pos'; exact rfl) | (apply w_idxb; iterate 4 exact rfl) | (apply w_ldbl; iterate 4 exact rfl) | ((first | apply w_nilck | apply w_not); iterate 2 exact rfl) | ((first | apply w_lss | apply w_add | apply w_idx | apply w_ld | apply w_fa); iterate 3 exact rfl) | omega | (apply w_ldb; iterate 5 exact rfl) | (apply inI_of <;> omega))
        all_goals first | exact ⟨(i + 1, t, p, r), ⟨by simp only; omega, i1, i2, i3, i4, i5⟩, by simp only; omega, ⟨lee rfl (by (repeat (first | exact le_nil | refine le_eq rfl rfl ?_))), by (repeat (first | exact lo_nil | refine lo_eq rfl ?_)), rfl, (by first | exact rfl | (simp [AO.lim, AV.lim, bL_lim]; done))⟩⟩ | (exfalso; simp_all; done)
      | false =>
        obtain ⟨u1, u2⟩ := hvo (geti nv (i : Nat)) t i2 i3 ⟨c0, c1⟩ hsc
        have u3 : (visF W (nearL E) k (geti nv (i : Nat)) t).cnt ≤ k := Nat.le_trans u2.cnt i3
        have hcall := ih (geti nv (i : Nat)) t i2 i3 ⟨c0, c1⟩ hsc
        have hnew := fun ho => lpF_new (vis := visF W (nearL E) k) (cs := nv.drop (i + 1)) (p := p) (r := r) hsc ho
        have hbig := fun ho => lpF_big (vis := visF W (nearL E) k) (cs := nv.drop (i + 1)) (p := p) (r := r) hsc ho
        rw [sn_get] at hsc
        generalize visF W (nearL E) k (geti nv (i : Nat)) t = u at *
        have lu1 := u1.ls
        have lu2 := u1.lf
        have lu3 := u1.lg
        have hst := step_c W (nbs W E) u p r (geti u.f (geti nv (i : Nat))) (geti u.g (geti nv (i : Nat))) i4 i5 (geti_memo lu2 u1.bf ⟨c0, c1⟩) (geti_memo lu3 u1.bg ⟨c0, c1⟩)
        repeat' (first | (apply AOps.nil; try simp only [List.nil_append, List.cons_append, List.set_cons_zero, List.set_cons_succ, List.length_cons, List.length_nil, Nat.reduceAdd, AV.sh, AV.sh1, AV.sh0, AO.sh, List.map_cons, List.map_nil, Nat.zero_add, Nat.add_zero, setAll]) | (apply w_move; exact rfl; exact rfl) | (apply w_assign; exact rfl; exact rfl) | apply AWp.seq | apply AWp.region | ((apply AWp.condP; exact rfl) <;> intro h) | ((apply AWp.condB; exact rfl) <;> intro h) | apply AWp.block | apply AWp.exit | apply AWp.skip | (apply if_pos'; exact rfl) | (apply w_idxb; iterate 4 exact rfl) | (apply w_ldbl; iterate 4 exact rfl) | ((first | apply w_nilck | apply w_not); iterate 2 exact rfl) | ((first | apply w_lss | apply w_add | apply w_idx | apply w_ld | apply w_fa); iterate 3 exact rfl) | (apply w_callb (hcall); exact rfl; exact rfl; exact rfl; exact rfl; exact rfl; exact rfl; exact rfl; (exact rdI_ro _ _); (exact rdN_ro _ _); exact rfl; try simp only [List.nil_append, List.cons_append, List.set_cons_zero, List.set_cons_succ, List.length_cons, List.length_nil, Nat.reduceAdd, AV.sh, AV.sh1, AV.sh0, AO.sh, List.map_cons, List.map_nil, Nat.zero_add, Nat.add_zero, setAll]) | omega | (apply w_ldb; iterate 5 exact rfl) | (apply inI_of <;> omega))
        all_goals try (exfalso; simp_all; done)
        by_cases hok : okS p r (geti u.f (geti nv (i : Nat))) (geti u.g (geti nv (i : Nat))) = true
        · have hn1 := hnew hok
          rw [hn1] at i1
          have e1 : stS u p r (geti u.f (geti nv (i : Nat))) (geti u.g (geti nv (i : Nat))) = u := by unfold stS; rw [if_pos hok]
          have e2 : stV p r (geti u.f (geti nv (i : Nat))) (geti u.g (geti nv (i : Nat))) = .tuple #[.int .i64 (p * geti u.f (geti nv (i : Nat))), .int .i64 (r * geti u.f (geti nv (i : Nat)) - p * geti u.g (geti nv (i : Nat)))] := by unfold stV; rw [if_pos hok]
          rw [e1, e2] at hst
          refine AWp.regionG [] (by kernel_rfl) (envC := ⟨81, [(0, .optr 1 0), (1, .i v), (4, .i (p * geti u.f (geti nv (i : Nat)))), (5, .i (r * geti u.f (geti nv (i : Nat)) - p * geti u.g (geti nv (i : Nat)))), (28, .ints nv), (29, .i nv.length), (30, .i i)]⟩) (osC := [.keep 5 K, .bx 69 [.ro (roI vW W), .ro (roN vN (nbs W E)), .own 2, .own 3, .own 4, .b u.l], .sli 2 u.f, .sli 2 u.g, .slr 4 (bL u.s)]) rfl (by first | exact rfl | (simp [AO.lim, AV.lim, bL_lim]; done)) ?_ ?_
          · repeat' (first | (apply AOps.nil; try simp only [List.nil_append, List.cons_append, List.set_cons_zero, List.set_cons_succ, List.length_cons, List.length_nil, Nat.reduceAdd, AV.sh, AV.sh1, AV.sh0, AO.sh, List.map_cons, List.map_nil, Nat.zero_add, Nat.add_zero, setAll]) | (apply w_move; exact rfl; exact rfl) | (apply w_assign; exact rfl; exact rfl) | apply AllOfG.nil | (apply AllOfG.consQ; exact rfl; exact rfl) | (apply AllOfG.consS; exact rfl; exact rfl) | (apply AAnyG.takeW; exact rfl; exact rfl; kernel_rfl; kernel_rfl) | (apply AAnyG.takeL; exact rfl; exact rfl; kernel_rfl) | (apply AAnyG.all; exact rfl) | (apply AAnyG.done; exact rfl) | ((apply w_nilck); iterate 2 exact rfl) | ((first | apply w_idx | apply w_ld | apply w_fa | apply w_extv); iterate 3 exact rfl) | (apply w_callb (hst); exact rfl; exact rfl; exact rfl; exact rfl; exact rfl; exact rfl; exact rfl; (exact rdI_ro _ _); (exact rdN_ro _ _); exact rfl; try simp only [List.nil_append, List.cons_append, List.set_cons_zero, List.set_cons_succ, List.length_cons, List.length_nil, Nat.reduceAdd, AV.sh, AV.sh1, AV.sh0, AO.sh, List.map_cons, List.map_nil, Nat.zero_add, Nat.add_zero, setAll]) | omega | (apply w_idxo; exact rfl; exact rfl; (exact .sli rfl); exact rfl) | (apply w_ldo; iterate 4 exact rfl) | (apply w_ldb; iterate 5 exact rfl))
            all_goals (apply Or.inl; refine ⟨lee rfl ?_, ?_, rfl, (by first | exact rfl | (simp [AO.lim, AV.lim, bL_lim]; done))⟩; (focus ((repeat (first | exact le_nil | refine le_eq rfl rfl ?_)); done)); (focus ((repeat (first | exact lo_nil | refine lo_eq rfl ?_)); done)))
          repeat' (first | (apply AOps.nil; try simp only [List.nil_append, List.cons_append, List.set_cons_zero, List.set_cons_succ, List.length_cons, List.length_nil, Nat.reduceAdd, AV.sh, AV.sh1, AV.sh0, AO.sh, List.map_cons, List.map_nil, Nat.zero_add, Nat.add_zero, setAll]) | (apply w_move; exact rfl; exact rfl) | apply AWp.region | ((apply w_add); iterate 3 exact rfl) | (apply inI_of <;> omega))
          exact ⟨(i + 1, u, p * geti u.f (geti nv (i : Nat)), r * geti u.f (geti nv (i : Nat)) - p * geti u.g (geti nv (i : Nat))), ⟨by simp only; omega, i1, u1, u3, (okS_in hok).1, (okS_in hok).2⟩, by simp only; omega, ⟨lee rfl (by (repeat (first | exact le_nil | refine le_eq rfl rfl ?_))), by (repeat (first | exact lo_nil | refine lo_eq rfl ?_)), rfl, (by first | exact rfl | (simp [AO.lim, AV.lim, bL_lim]; done))⟩⟩
        · have hn1 := hbig hok
          rw [hn1] at i1
          have e1 : stS u p r (geti u.f (geti nv (i : Nat))) (geti u.g (geti nv (i : Nat))) = u.big := by unfold stS; rw [if_neg hok]
          have e2 : stV p r (geti u.f (geti nv (i : Nat))) (geti u.g (geti nv (i : Nat))) = .tuple #[.int .i64 0, .int .i64 0] := by unfold stV; rw [if_neg hok]
          rw [e1, e2] at hst
          refine AWp.regionG [] (by kernel_rfl) (envC := ⟨81, [(0, .optr 1 0), (1, .i v), (4, .i 0), (5, .i 0), (28, .ints nv), (29, .i nv.length), (30, .i i)]⟩) (osC := [.keep 5 K, .bx 69 [.ro (roI vW W), .ro (roN vN (nbs W E)), .own 2, .own 3, .own 4, .b u.big.l], .sli 2 u.big.f, .sli 2 u.big.g, .slr 4 (bL u.big.s)]) rfl (by first | exact rfl | (simp [AO.lim, AV.lim, bL_lim]; done)) ?_ ?_
          · repeat' (first | (apply AOps.nil; try simp only [List.nil_append, List.cons_append, List.set_cons_zero, List.set_cons_succ, List.length_cons, List.length_nil, Nat.reduceAdd, AV.sh, AV.sh1, AV.sh0, AO.sh, List.map_cons, List.map_nil, Nat.zero_add, Nat.add_zero, setAll]) | (apply w_move; exact rfl; exact rfl) | (apply w_assign; exact rfl; exact rfl) | apply AllOfG.nil | (apply AllOfG.consQ; exact rfl; exact rfl) | (apply AllOfG.consS; exact rfl; exact rfl) | (apply AAnyG.takeW; exact rfl; exact rfl; kernel_rfl; kernel_rfl) | (apply AAnyG.takeL; exact rfl; exact rfl; kernel_rfl) | (apply AAnyG.all; exact rfl) | (apply AAnyG.done; exact rfl) | ((apply w_nilck); iterate 2 exact rfl) | ((first | apply w_idx | apply w_ld | apply w_fa | apply w_extv); iterate 3 exact rfl) | (apply w_callb (hst); exact rfl; exact rfl; exact rfl; exact rfl; exact rfl; exact rfl; exact rfl; (exact rdI_ro _ _); (exact rdN_ro _ _); exact rfl; try simp only [List.nil_append, List.cons_append, List.set_cons_zero, List.set_cons_succ, List.length_cons, List.length_nil, Nat.reduceAdd, AV.sh, AV.sh1, AV.sh0, AO.sh, List.map_cons, List.map_nil, Nat.zero_add, Nat.add_zero, setAll]) | omega | (apply w_idxo; exact rfl; exact rfl; (exact .sli rfl); exact rfl) | (apply w_ldo; iterate 4 exact rfl) | (apply w_ldb; iterate 5 exact rfl))
            all_goals (apply Or.inl; refine ⟨lee rfl ?_, ?_, rfl, (by first | exact rfl | (simp [AO.lim, AV.lim, bL_lim]; done))⟩; (focus ((repeat (first | exact le_nil | refine le_eq rfl rfl ?_)); done)); (focus ((repeat (first | exact lo_nil | refine lo_eq rfl ?_)); done)))
          repeat' (first | (apply AOps.nil; try simp only [List.nil_append, List.cons_append, List.set_cons_zero, List.set_cons_succ, List.length_cons, List.length_nil, Nat.reduceAdd, AV.sh, AV.sh1, AV.sh0, AO.sh, List.map_cons, List.map_nil, Nat.zero_add, Nat.add_zero, setAll]) | (apply w_move; exact rfl; exact rfl) | apply AWp.region | ((apply w_add); iterate 3 exact rfl) | (apply inI_of <;> omega))
          exact ⟨(i + 1, u.big, 0, 0), ⟨by simp only; omega, i1, ⟨u1.lf, u1.lg, u1.ls, u1.bf, u1.bg⟩, u3, inM0, inM0⟩, by simp only; omega, ⟨lee rfl (by (repeat (first | exact le_nil | refine le_eq rfl rfl ?_))), by (repeat (first | exact lo_nil | refine lo_eq rfl ?_)), rfl, (by first | exact rfl | (simp [AO.lim, AV.lim, bL_lim]; done))⟩⟩
    · have ei : i = nv.length := by omega
      subst ei
      rw [List.drop_length] at i1
      subst i1
      unfold inM at i4 i5
      repeat' (first | (apply AOps.nil; try simp only [List.nil_append, List.cons_append, List.set_cons_zero, List.set_cons_succ, List.length_cons, List.length_nil, Nat.reduceAdd, AV.sh, AV.sh1, AV.sh0, AO.sh, List.map_cons, List.map_nil, Nat.zero_add, Nat.add_zero, setAll]) | (apply w_move; exact rfl; exact rfl) | (apply w_assign; exact rfl; exact rfl) | apply AWp.seq | apply AWp.region | ((apply AWp.condP; exact rfl) <;> intro h) | apply AWp.block | apply AWp.exit | apply AWp.skip | (apply if_pos'; exact rfl) | ((apply w_nilck); iterate 2 exact rfl) | ((first | apply w_lss | apply w_idx | apply w_ld | apply w_fa); iterate 3 exact rfl) | omega)
      refine AWp.regionG [] (by kernel_rfl) (envC := ⟨81, [(0, .optr 1 0)]⟩) (osC := [.keep 5 K, .bx 69 [.ro (roI vW W), .ro (roN vN (nbs W E)), .own 2, .own 3, .own 4, .b t.l], .sli 2 (t.f.set v.toNat r), .sli 2 (t.g.set v.toNat p), .slr 4 (bL t.s)]) rfl (by first | exact rfl | (simp [AO.lim, AV.lim, bL_lim]; done)) ?_ ?_
      · repeat' (first | (apply AOps.nil; try simp only [List.nil_append, List.cons_append, List.set_cons_zero, List.set_cons_succ, List.length_cons, List.length_nil, Nat.reduceAdd, AV.sh, AV.sh1, AV.sh0, AO.sh, List.map_cons, List.map_nil, Nat.zero_add, Nat.add_zero, setAll]) | (apply w_move; exact rfl; exact rfl) | apply AllOfG.nil | (apply AllOfG.consQ; exact rfl; exact rfl) | (apply AllOfG.consS; exact rfl; exact rfl) | (apply AAnyG.takeW; exact rfl; exact rfl; kernel_rfl; kernel_rfl) | (apply AAnyG.takeL; exact rfl; exact rfl; kernel_rfl) | (apply AAnyG.all; exact rfl) | (apply AAnyG.done; exact rfl) | ((apply w_nilck); iterate 2 exact rfl) | ((first | apply w_idx | apply w_ld | apply w_fa); iterate 3 exact rfl) | omega | (apply w_idxo; exact rfl; exact rfl; (exact .sli rfl); exact rfl) | (apply w_ldb; iterate 5 exact rfl) | (apply w_sti; exact rfl; exact rfl; rotate_left 1; exact rfl; rotate_left 2) | (apply inI_of <;> omega))
        all_goals (apply Or.inl; refine ⟨lee rfl ?_, ?_, rfl, (by first | exact rfl | (simp [AO.lim, AV.lim, bL_lim]; done))⟩; (focus ((repeat (first | exact le_nil | refine le_eq rfl rfl ?_)); done)); (focus ((repeat (first | exact lo_nil | refine lo_eq rfl ?_)); done)))
      repeat' (apply AOps.nil; try simp only [List.nil_append, List.cons_append, List.set_cons_zero, List.set_cons_succ, List.length_cons, List.length_nil, Nat.reduceAdd, AV.sh, AV.sh1, AV.sh0, AO.sh, List.map_cons, List.map_nil, Nat.zero_add, Nat.add_zero, setAll])
      exact ⟨.unit Try.results35, [], rfl⟩
end Go.Proofs.Ythjkpmjdkcainaa
/-
  Operations that make memory, each its own, in whatever order: one order is enough. No condition.
-/
namespace Go.Proofs.Ythjkpmjdkcainaa
open Go Go.RowKit
set_option linter.unusedVariables false

/-- What an operation brings: a new object (by its slice value, by its address), or a value. -/
inductive Kd where
  | own (o : AO)
  | ptr (o : AO)
  | val (a : AV)
structure It where
  i : Nat
  d : Nat
  q : Kd
def It.r (it : It) (m : Nat) : AV := match it.q with
  | .own _ => .own m
  | .ptr _ => .optr m 0
  | .val a => a
def It.os (it : It) : List AO := match it.q with
  | .own o => [o]
  | .ptr o => [o]
  | .val _ => []
def osL (D : List It) : List AO := D.flatMap It.os
theorem osL_app (A B : List It) : osL (A ++ B) = osL A ++ osL B := List.flatMap_append
theorem osL_perm {A B : List It} (h : A.Perm B) : (osL A).length = (osL B).length := by
  unfold osL
  rw [List.length_flatMap, List.length_flatMap]
  exact (h.map _).sum_nat
def Fr (env0 : Env) (ds : List Nat) (env : Env) : Prop := env.n = env0.n ∧ ∀ k, k ∉ ds → env.fd k = env0.fd k
def upsL (env : Env) : List It → Nat → Env
  | [], _ => env
  | it :: D, n => upsL (env.up it.d (it.r n)) D (n + it.os.length)
theorem upsL_app (B : List It) : ∀ (A : List It) (env : Env) (n : Nat), upsL env (A ++ B) n = upsL (upsL env A n) B (n + (osL A).length)
  | [], env, n => rfl
  | c :: C, env, n => by
    rw [List.cons_append, upsL, upsL_app B C, upsL]
    congr 1
    rw [show c :: C = [c] ++ C from rfl, osL_app, List.length_append]
    simp only [osL, List.flatMap_cons, List.flatMap_nil, List.append_nil]; omega
theorem upsL_snoc (it : It) (D : List It) (env : Env) (n : Nat) : upsL env (D ++ [it]) n = (upsL env D n).up it.d (it.r (n + (osL D).length)) := by
  rw [upsL_app]; rfl
theorem fd_up (e : Env) (d : Nat) (r : AV) (k : Nat) : (e.up d r).fd k = if k = d ∧ d < e.n then some r else e.fd k := by
  simp only [Env.fd, Env.up, fdm]
  by_cases h : k = d
  · subst h
    have : Nat.beq k k = true := Nat.beq_refl k
    by_cases h2 : k < e.n
    · have h3 : Nat.blt k e.n = true := by rw [Nat.blt_eq]; exact h2
      simp [h2, h3]
    · have h3 : Nat.blt k e.n = false := by rw [Bool.eq_false_iff]; intro h4; rw [Nat.blt_eq] at h4; exact h2 h4
      simp [h2, h3]
  · have : Nat.beq d k = false := by rw [Bool.eq_false_iff]; intro h4; exact h (Nat.eq_of_beq_eq_true h4).symm
    simp [h, this]
theorem upsL_n : ∀ (D : List It) (env : Env) (n : Nat), (upsL env D n).n = env.n
  | [], env, n => rfl
  | a :: D, env, n => by rw [upsL, upsL_n D]; rfl
theorem upsL_fd : ∀ (D : List It) (env : Env) (n k : Nat), k ∉ D.map (·.d) → (upsL env D n).fd k = env.fd k
  | [], env, n, k, _ => rfl
  | a :: D, env, n, k, h => by
    simp only [List.map_cons, List.mem_cons, not_or] at h
    rw [upsL, upsL_fd D _ _ _ h.2, fd_up, if_neg (fun e => h.1 e.1)]
theorem upsL_at (it : It) (A B : List It) (env : Env) (n : Nat) (hd : it.d < env.n) (hB : it.d ∉ B.map (·.d)) : (upsL env (A ++ it :: B) n).fd it.d = some (it.r (n + (osL A).length)) := by
  have e : A ++ it :: B = (A ++ [it]) ++ B := by simp
  rw [e, upsL_app, upsL_fd _ _ _ _ hB, upsL_snoc, fd_up, if_pos ⟨rfl, by rw [upsL_n]; exact hd⟩]

/-! ### Which have been -/
def lsD (listed : List Bool) : List Nat → List Bool
  | [] => listed
  | i :: is => lsD (listed.set i true) is
theorem lsD_snoc (i : Nat) : ∀ (is : List Nat) (listed : List Bool), lsD listed (is ++ [i]) = (lsD listed is).set i true
  | [], _ => rfl
  | j :: is, listed => by rw [List.cons_append, lsD, lsD, lsD_snoc i is]
theorem lsD_get : ∀ (is : List Nat) (listed : List Bool) (k : Nat), (lsD listed is)[k]? = if k ∈ is ∧ k < listed.length then some true else listed[k]?
  | [], listed, k => by simp [lsD]
  | i :: is, listed, k => by
    rw [lsD, lsD_get is, List.length_set, List.getElem?_set]
    by_cases h2 : k < listed.length
    · by_cases h1 : k ∈ is
      · rw [if_pos ⟨h1, h2⟩, if_pos ⟨by simp [h1], h2⟩]
      · rw [if_neg (fun h => h1 h.1)]
        by_cases e : i = k
        · subst e
          rw [if_pos rfl, if_pos h2, if_pos ⟨by simp, h2⟩]
        · rw [if_neg e, if_neg]
          rintro ⟨h3, _⟩
          rcases List.mem_cons.1 h3 with h3 | h3
          · exact e h3.symm
          · exact h1 h3
    · simp only [h2, and_false, if_false]
      by_cases e : i = k
      · subst e; rw [if_pos rfl, if_neg h2, List.getElem?_eq_none (by omega)]
      · rw [if_neg e]
theorem lsD_congr {listed : List Bool} {A B : List Nat} (h : ∀ k, k ∈ A ↔ k ∈ B) : lsD listed A = lsD listed B := by
  apply List.ext_getElem?
  intro k
  rw [lsD_get, lsD_get]
  simp only [h]
def subs : List Nat → List (List Nat)
  | [] => [[]]
  | x :: xs => subs xs ++ (subs xs).map (x :: ·)
theorem filter_subs (f : Nat → Bool) : ∀ xs : List Nat, xs.filter f ∈ subs xs
  | [] => by simp [subs]
  | x :: xs => by
    rw [subs, List.mem_append]
    cases h : f x
    · left; rw [List.filter_cons_of_neg (by simp [h])]; exact filter_subs f xs
    · right; rw [List.filter_cons_of_pos h]; exact List.mem_map.2 ⟨_, filter_subs f xs, rfl⟩

section
variable {P : Program} {qs : List Nat} {l : List Oper} {K : APost} {env0 : Env} {os0 : List AO}
def NStep (P : Program) (qs : List Nat) (l : List Oper) (env0 : Env) (os0 : List AO) (N : List It) (it : It) : Prop :=
  ∃ o, l[it.i]? = some o ∧ gentB qs o = false ∧ ∀ (env : Env) (os : List AO) (K' : APost), Fr env0 (N.map (·.d)) env → (∃ t, os = os0 ++ t) →
    (∀ z ∈ N, ∀ a, z.q = .val a → (o.after.toList.any fun e => Region.binds .any e && e.on == z.i) = true → env.fd z.d = some a) → K' (env.up it.d (it.r os.length)) (os ++ it.os) → AOps P .seq l [o] K' env os
/-- A load: it need not wait for what makes memory. -/
def NStepQ (P : Program) (qs : List Nat) (l : List Oper) (env0 : Env) (os0 : List AO) (N : List It) (it : It) : Prop :=
  ∃ o, l[it.i]? = some o ∧ gentB qs o = true ∧ ∀ (env : Env) (os : List AO) (K' : APost), Fr env0 (N.map (·.d)) env → (∃ t, os = os0 ++ t) →
    (∀ z ∈ N, ∀ a, z.q = .val a → (o.after.toList.any fun e => Region.binds .any e && e.on == z.i) = true → env.fd z.d = some a) → K' (env.up it.d (it.r os.length)) (os ++ it.os) → AOps P .quiet l [o] K' env os
theorem AllOfG.of {fuel : Nat} {listed : List Bool} {env : Env} {os : List AO} : ∀ {rs : List Nat}, (∀ i ∈ rs, ∃ o, l[i]? = some o ∧ AOps P (cond (gentB qs o) .quiet .seq) l [o] (fun env os => AAnyG P qs l fuel (listed.set i true) K env os) env os) → AllOfG P qs l fuel listed K env os rs
  | [], _ => trivial
  | i :: rs, h => ⟨h i (by simp), AllOfG.of fun j hj => h j (by simp [hj])⟩
/-- A set of operations that can have been: each with those that it waits for. -/
def depOk (l : List Oper) (idx S : List Nat) : Bool := S.all fun k => match l[k]? with | some o => o.after.toList.all fun e => !(Region.binds .any e && idx.contains e.on) || S.contains e.on | none => true
/-- What comes up is among those that have not been. -/
def chkR (l : List Oper) (listed : List Bool) (idx S : List Nat) : Bool := !(rdyGo (lsD listed S) 0 l).isEmpty && (rdyGo (lsD listed S) 0 l).all fun j => idx.contains j && !S.contains j
theorem it_inj : ∀ L : List It, (L.map (·.i)).Nodup → ∀ x ∈ L, ∀ y ∈ L, x.i = y.i → x = y := by
  intro L
  induction L with
  | nil => intro _ x hx; cases hx
  | cons w L ihL =>
    intro hn x hx y hy hxy
    rw [List.map_cons] at hn
    obtain ⟨n1, n2⟩ := List.nodup_cons.1 hn
    rcases List.mem_cons.1 hx with e1 | g1
    · rcases List.mem_cons.1 hy with e2 | g2
      · exact e1.trans e2.symm
      · exact absurd (List.mem_map.2 ⟨y, g2, by rw [← hxy, e1]⟩) n1
    · rcases List.mem_cons.1 hy with e2 | g2
      · exact absurd (List.mem_map.2 ⟨x, g1, by rw [hxy, e2]⟩) n1
      · exact ihL n2 x g1 y g2 hxy
theorem AAnyG.newsRun {N N' : List It} (hN' : ∀ z ∈ N', z ∈ N) (hnN : (N'.map (·.i)).Nodup) {listed : List Bool} {fuel : Nat} (hst : ∀ it ∈ N, NStep P qs l env0 os0 N it ∨ NStepQ P qs l env0 os0 N it) (hnd : (N.map (·.i)).Nodup) (hds : (N.map (·.d)).Nodup) (hdn : ∀ it ∈ N, it.d < env0.n) (hl0 : ∀ it ∈ N, listed.getD it.i true = false)
    (hrd : (subs (N.map (·.i))).all (fun S => !depOk l (N.map (·.i)) S || (S.length == N.length || (N'.map (·.i)).isPerm S || chkR l listed (N.map (·.i)) S)) = true)
    (hstop : ∀ D, D.Perm N' → AAnyG P qs l (fuel + (N.length - N'.length)) (lsD listed (D.map (·.i))) K (upsL env0 D os0.length) (os0 ++ osL D))
    (hfin : ∀ D, D.Perm N → AAnyG P qs l fuel (lsD listed (D.map (·.i))) K (upsL env0 D os0.length) (os0 ++ osL D)) :
    ∀ (m : Nat) (D R : List It), R.length = m → (D ++ R).Perm N → (∀ k ∈ D.map (·.i), ∀ o, l[k]? = some o → ∀ e ∈ o.after.toList, Region.binds .any e = true → e.on ∈ N.map (·.i) → e.on ∈ D.map (·.i)) → AAnyG P qs l (fuel + m) (lsD listed (D.map (·.i))) K (upsL env0 D os0.length) (os0 ++ osL D)
  | 0, D, R, hm, hp, hcl => by
    have : R = [] := List.eq_nil_of_length_eq_zero hm
    subst this
    rw [List.append_nil] at hp
    exact hfin D hp
  | m + 1, D, R, hm, hp, hcl => by
    have hpi : (D.map (·.i) ++ R.map (·.i)).Perm (N.map (·.i)) := by rw [← List.map_append]; exact hp.map _
    have hndD := hpi.nodup_iff.2 hnd
    have hlen : D.length + R.length = N.length := by rw [← List.length_append]; exact hp.length_eq
    -- the canonical list of those that have been
    let S := (N.map (·.i)).filter fun j => (D.map (·.i)).contains j
    have hS : ∀ k, k ∈ S ↔ k ∈ D.map (·.i) := fun k => by
      simp only [S, List.mem_filter, List.contains_eq_mem, decide_eq_true_eq]
      constructor
      · exact fun h => h.2
      · exact fun h => ⟨hpi.mem_iff.1 (List.mem_append.2 (.inl h)), h⟩
    have hSm := filter_subs (fun j => (D.map (·.i)).contains j) (N.map (·.i))
    have hdo : depOk l (N.map (·.i)) S = true := by
      unfold depOk
      rw [List.all_eq_true]
      intro k hk
      cases ho : l[k]? with
      | none => rfl
      | some o =>
        show (o.after.toList.all fun e => !(Region.binds .any e && (N.map (·.i)).contains e.on) || S.contains e.on) = true
        rw [List.all_eq_true]
        intro e he
        cases hb : Region.binds .any e && (N.map (·.i)).contains e.on with
        | false => rfl
        | true =>
          rw [Bool.and_eq_true, List.contains_eq_mem, decide_eq_true_eq] at hb
          have := (hS _).2 (hcl k ((hS k).1 hk) o ho e he hb.1 hb.2)
          simp [this]
    have hc := List.all_eq_true.1 hrd S hSm
    rw [hdo, Bool.not_true, Bool.false_or] at hc
    have hSl : S.length ≠ N.length := by
      intro e
      have hSn : S.Nodup := hnd.sublist List.filter_sublist
      have h1 : S.Perm (D.map (·.i)) := (List.perm_ext_iff_of_nodup hSn (List.nodup_append.1 hndD).1).2 hS
      have := h1.length_eq
      rw [List.length_map] at this; omega
    have hc2 : (N'.map (·.i)).isPerm S = true ∨ chkR l listed (N.map (·.i)) S = true := by
      rcases Bool.or_eq_true_iff.1 hc with h | h
      · rcases Bool.or_eq_true_iff.1 h with h | h
        · exact absurd (by simpa using h) hSl
        · exact .inl h
      · exact .inr h
    rcases hc2 with hst' | hc'
    · have hSp : (N'.map (·.i)).Perm S := List.isPerm_iff.1 hst'
      have hDmem : ∀ z ∈ D, z ∈ N := fun z hz => hp.mem_iff.1 (List.mem_append.2 (.inl hz))
      have hDi := (List.nodup_append.1 hndD).1
      have nd_of : ∀ L : List It, (L.map (·.i)).Nodup → L.Nodup := fun L h => by
        have h1 : (L.map (·.i)).Pairwise (· ≠ ·) := h
        rw [List.pairwise_map] at h1
        exact h1.imp fun h e => h (congrArg It.i e)
      have hDN' : D.Perm N' := (List.perm_ext_iff_of_nodup (nd_of D hDi) (nd_of N' hnN)).2 fun z => by
        constructor
        · intro hz
          have h1 : z.i ∈ N'.map (·.i) := hSp.mem_iff.2 ((hS _).2 (List.mem_map.2 ⟨z, hz, rfl⟩))
          obtain ⟨y, hy, e⟩ := List.mem_map.1 h1
          have := it_inj N hnd y (hN' y hy) z (hDmem z hz) e
          rwa [← this]
        · intro hz
          have h1 : z.i ∈ D.map (·.i) := (hS _).1 (hSp.mem_iff.1 (List.mem_map.2 ⟨z, hz, rfl⟩))
          obtain ⟨y, hy, e⟩ := List.mem_map.1 h1
          have := it_inj N hnd y (hDmem y hy) z (hN' z hz) e
          rwa [← this]
      have hl1 := hDN'.length_eq
      rw [show m + 1 = N.length - N'.length by omega]
      exact hstop D hDN'
    unfold chkR at hc'
    rw [lsD_congr hS] at hc'
    obtain ⟨h1, h2⟩ := Bool.and_eq_true_iff.1 hc'
    cases hr : rdyGo (lsD listed (D.map (·.i))) 0 l with
    | nil => rw [hr] at h1; simp at h1
    | cons j js =>
      rw [← Nat.add_assoc]
      refine AAnyG.all hr (AllOfG.of fun k hk => ?_)
      rw [← hr] at hk
      have h3 := List.all_eq_true.1 h2 k hk
      simp only [List.contains_eq_mem, Bool.and_eq_true, decide_eq_true_eq, Bool.not_eq_true', decide_eq_false_iff_not] at h3
      have hkS : k ∉ D.map (·.i) := fun h => h3.2 ((hS k).2 h)
      have hkR : k ∈ R.map (·.i) := by
        rcases List.mem_append.1 (hpi.mem_iff.2 h3.1) with h | h
        · exact absurd h hkS
        · exact h
      obtain ⟨it, hit, rfl⟩ := List.mem_map.1 hkR
      obtain ⟨A, B, rfl⟩ := List.append_of_mem hit
      have hp' : ((D ++ [it]) ++ (A ++ B)).Perm N := by
        refine List.Perm.trans ?_ hp
        rw [List.append_assoc]
        exact List.Perm.append_left _ (List.perm_middle (l₁ := A)).symm
      have hin : ∀ o, l[it.i]? = some o → ∀ e ∈ o.after.toList, Region.binds .any e = true → e.on ∈ N.map (·.i) → e.on ∈ D.map (·.i) := by
        intro o ho e he hbe hz
        obtain ⟨_, _, o', ho', hb⟩ := mem_rdyGo.1 hk
        rw [Nat.sub_zero] at ho'
        have eo : o' = o := by rw [ho] at ho'; exact (Option.some.inj ho').symm
        subst eo
        obtain ⟨z, hzN, ez⟩ := List.mem_map.1 hz
        have h5 := hb e (by simpa using he) hbe
        rw [List.getD_eq_getElem?_getD, lsD_get] at h5
        have h6 := hl0 z hzN
        rw [ez, List.getD_eq_getElem?_getD] at h6
        apply Classical.byContradiction
        intro hn
        rw [if_neg (fun h => hn h.1)] at h5
        cases hx : listed[e.on]? with
        | none => rw [hx] at h5; cases h5
        | some b => rw [hx] at h5 h6; simp at h5 h6; rw [h5] at h6; cases h6
      have hcl' : ∀ k ∈ (D ++ [it]).map (·.i), ∀ o, l[k]? = some o → ∀ e ∈ o.after.toList, Region.binds .any e = true → e.on ∈ N.map (·.i) → e.on ∈ (D ++ [it]).map (·.i) := by
        intro k' hk' o ho e he hbe hz
        rw [List.map_append, List.mem_append] at hk' ⊢
        rcases hk' with hk' | hk'
        · exact .inl (hcl k' hk' o ho e he hbe hz)
        · rw [List.map_cons, List.map_nil, List.mem_singleton] at hk'
          subst hk'
          exact .inl (hin o ho e he hbe hz)
      have ih := AAnyG.newsRun hN' hnN hst hnd hds hdn hl0 hrd hstop hfin m (D ++ [it]) (A ++ B) (by simp at hm ⊢; omega) hp' hcl'
      have hDN : ∀ z ∈ D, z ∈ N := fun z hz => hp.mem_iff.1 (List.mem_append.2 (.inl hz))
      have hfr : Fr env0 (N.map (·.d)) (upsL env0 D os0.length) := ⟨upsL_n _ _ _, fun k hk => upsL_fd _ _ _ _ fun h => hk (by
        obtain ⟨z, hz, rfl⟩ := List.mem_map.1 h
        exact List.mem_map.2 ⟨z, hDN z hz, rfl⟩)⟩
      have hDd : (D.map (·.d)).Nodup := by
        have : ((D ++ (A ++ it :: B)).map (·.d)).Nodup := (hp.map (·.d)).nodup_iff.2 hds
        rw [List.map_append] at this
        exact (List.nodup_append.1 this).1
      have hdep : ∀ o : Oper, l[it.i]? = some o → ∀ z ∈ N, ∀ a, z.q = .val a → (o.after.toList.any fun e => Region.binds .any e && e.on == z.i) = true → (upsL env0 D os0.length).fd z.d = some a := by
        intro o ho z hz a ha hany
        obtain ⟨_, _, o', ho', hb⟩ := mem_rdyGo.1 hk
        rw [Nat.sub_zero] at ho'
        have eo : o' = o := by rw [ho] at ho'; exact (Option.some.inj ho').symm
        subst eo
        obtain ⟨e, he, hbe⟩ := List.any_eq_true.1 hany
        simp only [Bool.and_eq_true, beq_iff_eq] at hbe
        have h5 := hb e (by simpa using he) hbe.1
        rw [hbe.2, List.getD_eq_getElem?_getD, lsD_get] at h5
        have h6 := hl0 z hz
        rw [List.getD_eq_getElem?_getD] at h6
        have hzD : z.i ∈ D.map (·.i) := by
          apply Classical.byContradiction
          intro hn
          rw [if_neg (fun h => hn h.1)] at h5
          cases hx : listed[z.i]? with
          | none => rw [hx] at h5; cases h5
          | some b => rw [hx] at h5 h6; simp at h5 h6; rw [h5] at h6; cases h6
        obtain ⟨z', hz', ez⟩ := List.mem_map.1 hzD
        have hzz : z' = z := by
          exact it_inj N hnd z' (hDN z' hz') z hz ez
        subst hzz
        obtain ⟨A', B', eD⟩ := List.append_of_mem hz'
        have hdB : z'.d ∉ B'.map (·.d) := by
          rw [eD, List.map_append, List.map_cons] at hDd
          exact (List.nodup_cons.1 (List.nodup_append.1 hDd).2.1).1
        rw [eD, upsL_at z' A' B' env0 _ (hdn z' hz) hdB]
        unfold It.r
        rw [ha]
      have hK : AAnyG P qs l (fuel + m) ((lsD listed (D.map (·.i))).set it.i true) K ((upsL env0 D os0.length).up it.d (it.r (os0 ++ osL D).length)) ((os0 ++ osL D) ++ it.os) := by
        rw [List.map_append, osL_app, List.map_cons, List.map_nil, lsD_snoc, upsL_snoc, ← List.append_assoc] at ih
        rw [List.length_append]
        have e1 : osL [it] = it.os := by simp [osL]
        rw [e1] at ih
        exact ih
      rcases hst it (hp.mem_iff.1 (List.mem_append.2 (.inr hit))) with ⟨o, ho, hg, hop⟩ | ⟨o, ho, hg, hop⟩
      · refine ⟨o, ho, ?_⟩
        rw [hg]
        exact hop _ _ _ hfr ⟨_, rfl⟩ (hdep o ho) hK
      · refine ⟨o, ho, ?_⟩
        rw [hg]
        exact hop _ _ _ hfr ⟨_, rfl⟩ (hdep o ho) hK
theorem AAnyG.turns {fuel : Nat} {listed : List Bool} {env env' : Env} {os os' : List AO} (ht : Turns env os env' os') (h : AAnyG P qs l fuel listed K env' os') : AAnyG P qs l fuel listed K env os := by
  intro base w0 w gs tm hr hb X Rt
  obtain ⟨gs', hr'⟩ := ht base w gs tm hr
  exact h base w0 w gs' tm hr' hb X Rt

/-! ### One order -/
def canL : List It → Nat → List (Nat × AV)
  | [], _ => []
  | it :: N, n => (it.d, it.r n) :: canL N (n + it.os.length)
theorem ixOf_of : ∀ {σ : List Nat} {j h : Nat}, σ.Nodup → σ[j]? = some h → ixOf σ h = some j
  | [], j, h, _, e => by simp at e
  | s :: t, 0, h, _, e => by
    simp at e; subst e
    simp [ixOf, Nat.beq_refl]
  | s :: t, j + 1, h, hn, e => by
    have e' : t[j]? = some h := by simpa using e
    obtain ⟨n1, n2⟩ := List.nodup_cons.1 hn
    have hne : Nat.beq s h = false := by
      rw [Bool.eq_false_iff]; intro hb
      have := Nat.eq_of_beq_eq_true hb
      subst this; exact n1 (List.mem_of_getElem? e')
    rw [ixOf, hne, ixOf_of n2 e']; rfl
theorem leM_app {e : Env} : ∀ {a b : List (Nat × AV)}, LeM e a → LeM e b → LeM e (a ++ b)
  | [], _, _, hb => hb
  | _ :: _, _, ha, hb => ⟨ha.1, leM_app ha.2 hb⟩
theorem leM_of {e : Env} : ∀ {a : List (Nat × AV)}, (∀ p ∈ a, e.fd p.1 = some p.2) → LeM e a
  | [], _ => trivial
  | p :: _, h => ⟨h p (by simp), leM_of fun q hq => h q (by simp [hq])⟩
theorem leO_refl : ∀ a : List AO, LeO a a
  | [] => trivial
  | _ :: a => ⟨.inr (.inl rfl), leO_refl a⟩
theorem fd_mp (f : AV → AV) (e : Env) (k : Nat) : (e.mp f).fd k = (e.fd k).map f := by
  simp only [Env.fd, Env.mp, fdm_mp]
  cases Nat.blt k e.n <;> rfl
theorem mem_canL {N : List It} : ∀ {n : Nat} {p : Nat × AV}, p ∈ canL N n → ∃ (A B : List It) (it : It), N = A ++ it :: B ∧ p = (it.d, it.r (n + (osL A).length)) := by
  induction N with
  | nil => intro n p h; cases h
  | cons a N ih =>
    intro n p h
    rcases List.mem_cons.1 h with rfl | h
    · exact ⟨[], N, a, rfl, rfl⟩
    · obtain ⟨A, B, it, h1, h2⟩ := ih h
      refine ⟨a :: A, B, it, by rw [h1]; rfl, by rw [h2, show a :: A = [a] ++ A from rfl, osL_app, List.length_append]; congr 2; simp [osL]; omega⟩
/-- What stays when numbers change beyond the first n0. -/
def Clo (n0 M : Nat) (o : AO) : Prop := o.lim M = o ∧ ∀ σ : List Nat, n0 ≤ σ.length → σ.take n0 = List.range n0 → o.ren σ = o
/-- What stays of an operation's gift. -/
def CloI (n0 M : Nat) (it : It) : Prop := (∀ o ∈ it.os, Clo n0 M o) ∧ ∀ a, it.q = .val a → a.lim M = a ∧ ∀ σ, a.ren σ = a
theorem it_os1 {it : It} (h : ∀ a, it.q ≠ .val a) : ∃ o, it.os = [o] := by
  unfold It.os
  cases hq : it.q with
  | own o => exact ⟨o, rfl⟩
  | ptr o => exact ⟨o, rfl⟩
  | val a => exact absurd hq (h a)
theorem it_os0 {it : It} {a : AV} (h : it.q = .val a) : it.os = [] := by unfold It.os; rw [h]
theorem r_ren {it : It} {σ : List Nat} {m j : Nat} (h : ∀ a, it.q ≠ .val a) (hx : ixOf σ m = some j) : (it.r m).ren σ = it.r j := by
  unfold It.r
  cases hq : it.q with
  | own o => simp [AV.ren, hx]
  | ptr o => simp [AV.ren, hx]
  | val a => exact absurd hq (h a)
theorem r_lim {it : It} {m n : Nat} (h : ∀ a, it.q ≠ .val a) (hx : m < n) : (it.r m).lim n = it.r m := by
  unfold It.r
  cases hq : it.q with
  | own o => simp [AV.lim, hx]
  | ptr o => simp [AV.lim, hx]
  | val a => exact absurd hq (h a)
theorem r_val {it : It} {a : AV} (h : it.q = .val a) (m : Nat) : it.r m = a := by unfold It.r; rw [h]
theorem osL_at {A B : List It} {it : It} {o : AO} (h : it.os = [o]) : (osL (A ++ it :: B))[(osL A).length]? = some o := by
  rw [osL_app, List.getElem?_append_right (Nat.le_refl _), Nat.sub_self]
  simp [osL, h]
theorem flat_len (N : List It) (f : It → Nat) : (N.flatMap fun it => it.os.map fun _ => f it).length = (osL N).length := by
  unfold osL
  rw [List.length_flatMap, List.length_flatMap]
  congr 1
  exact List.map_congr_left fun it _ => by simp
theorem news_turn {N D : List It} {kept : List (Nat × AV)} (hp : D.Perm N) (hnd : (N.map (·.i)).Nodup) (hds : (N.map (·.d)).Nodup) (hdn : ∀ it ∈ N, it.d < env0.n) (hk : ∀ p ∈ kept, env0.fd p.1 = some p.2 ∧ p.1 ∉ N.map (·.d) ∧ p.2.lim (os0.length + (osL N).length) = p.2 ∧ ∀ σ, p.2.ren σ = p.2)
    (ho : ∀ o ∈ os0, Clo os0.length (os0.length + (osL N).length) o) (hN : ∀ it ∈ N, CloI os0.length (os0.length + (osL N).length) it) :
    Turns (upsL env0 D os0.length) (os0 ++ osL D) ⟨env0.n, canL N os0.length ++ kept⟩ (os0 ++ osL N) := by
  let n0 := os0.length
  have hDd : (D.map (·.d)).Nodup := (hp.map (·.d)).nodup_iff.2 hds
  have hNn : N.Nodup := by
    have h1 : (N.map (·.i)).Pairwise (· ≠ ·) := hnd
    rw [List.pairwise_map] at h1
    exact h1.imp fun h e => h (congrArg It.i e)
  have hDn : D.Nodup := hp.nodup_iff.2 hNn
  have hlD := osL_perm hp
  have hex : ∀ it : It, it ∈ N → ∃ A B, D = A ++ it :: B := fun it hit => List.append_of_mem (hp.mem_iff.2 hit)
  let pos : It → Nat := fun it => open Classical in if h : it ∈ N then (osL (hex it h).choose).length else 0
  have hpos : ∀ it ∈ N, ∃ A B, D = A ++ it :: B ∧ pos it = (osL A).length := fun it hit => by
    obtain ⟨B, hB⟩ := (hex it hit).choose_spec
    exact ⟨_, B, hB, by simp only [pos, dif_pos hit]⟩
  have huni : ∀ {A B A' B' : List It} {it : It}, D = A ++ it :: B → D = A' ++ it :: B' → A = A' := by
    intro A B A' B' it h1 h2
    have n1 : D[A.length]? = some it := by rw [h1]; simp
    have n2 : D[A'.length]? = some it := by rw [h2]; simp
    have hl := (List.getElem?_inj (List.getElem?_eq_some_iff.1 n1).1 hDn).1 (n1.trans n2.symm)
    have h3 := congrArg (List.take A.length) (h1.symm.trans h2)
    rw [List.take_left] at h3
    rw [h3, hl, List.take_left]
  let σ : List Nat := List.range n0 ++ N.flatMap fun it => it.os.map fun _ => n0 + pos it
  have hσl : n0 ≤ σ.length := by simp [σ]
  have hσt : σ.take n0 = List.range n0 := by simp [σ]
  have hobj : ∀ it ∈ N, ∀ o, it.os = [o] → (os0 ++ osL D)[n0 + pos it]? = some o := fun it hit o h1 => by
    obtain ⟨A, B, hD, hpa⟩ := hpos it hit
    rw [List.getElem?_append_right (by omega), show n0 + pos it - os0.length = pos it by omega, hpa, hD]
    exact osL_at h1
  have hsep : ∀ a ∈ N, ∀ b ∈ N, a ≠ b → (∃ o, a.os = [o]) → (∃ o, b.os = [o]) → pos a ≠ pos b := by
    rintro a ha b hb hab ⟨oa, ea⟩ ⟨ob, eb⟩
    obtain ⟨A, B, hD, hpa⟩ := hpos a ha
    obtain ⟨A', B', hD', hpb⟩ := hpos b hb
    have hbm : b ∈ D := hp.mem_iff.2 hb
    rw [hD] at hbm
    rcases List.mem_append.1 hbm with hm | hm
    · obtain ⟨C, E, rfl⟩ := List.append_of_mem hm
      have := huni (A := C) (B := E ++ a :: B) (by rw [hD]; simp) hD'
      subst this
      rw [hpa, hpb, osL_app, List.length_append]
      simp only [osL, List.flatMap_cons, eb, List.length_append, List.length_singleton]; omega
    · rcases List.mem_cons.1 hm with e | hm
      · exact absurd e.symm hab
      · obtain ⟨C, E, rfl⟩ := List.append_of_mem hm
        have := huni (A := A ++ a :: C) (B := E) (by rw [hD]; simp) hD'
        subst this
        rw [hpa, hpb, osL_app, List.length_append]
        simp only [osL, List.flatMap_cons, ea, List.length_append, List.length_singleton]; omega
  have hσn : σ.Nodup := by
    rw [List.nodup_append]
    refine ⟨List.nodup_range, ?_, ?_⟩
    · have key : ∀ L : List It, L.Nodup → (∀ it ∈ L, it ∈ N) → (L.flatMap fun it => it.os.map fun _ => n0 + pos it).Nodup := by
        intro L
        induction L with
        | nil => intro _ _; exact List.nodup_nil
        | cons a L ih =>
          intro hn hs
          obtain ⟨n1, n2⟩ := List.nodup_cons.1 hn
          rw [List.flatMap_cons, List.nodup_append]
          refine ⟨?_, ih n2 fun it hit => hs it (by simp [hit]), ?_⟩
          · unfold It.os; cases a.q <;> simp
          · intro x hx y hy exy
            obtain ⟨oa, hoa, rfl⟩ := List.mem_map.1 hx
            obtain ⟨b, hb, hy⟩ := List.mem_flatMap.1 hy
            obtain ⟨ob, hob, rfl⟩ := List.mem_map.1 hy
            have q1 : ∃ o, a.os = [o] := by
              refine it_os1 fun z hz => ?_
              rw [it_os0 hz] at hoa; cases hoa
            have q2 : ∃ o, b.os = [o] := by
              refine it_os1 fun z hz => ?_
              rw [it_os0 hz] at hob; cases hob
            exact hsep a (hs a (by simp)) b (hs b (by simp [hb])) (fun e => n1 (e ▸ hb)) q1 q2 (by omega)
      exact key N hNn fun it h => h
    · intro a ha b hb e
      have := List.mem_range.1 ha
      obtain ⟨it, _, hb⟩ := List.mem_flatMap.1 hb
      obtain ⟨_, _, rfl⟩ := List.mem_map.1 hb
      omega
  have hσk : ∀ (A B : List It) it, N = A ++ it :: B → (∃ o, it.os = [o]) → σ[n0 + (osL A).length]? = some (n0 + pos it) := by
    rintro A B it hNe ⟨o, eo⟩
    show (List.range n0 ++ N.flatMap fun it => it.os.map fun _ => n0 + pos it)[n0 + (osL A).length]? = _
    rw [List.getElem?_append_right (by simp), List.length_range, Nat.add_sub_cancel_left, hNe, List.flatMap_append, List.getElem?_append_right (by rw [flat_len]; exact Nat.le_refl _), flat_len, Nat.sub_self, List.flatMap_cons, eo]
    rfl
  have hsel : selO σ (os0 ++ osL D) = os0 ++ osL N := by
    show σ.map _ = _
    rw [show σ = List.range n0 ++ N.flatMap (fun it => it.os.map fun _ => n0 + pos it) from rfl, List.map_append]
    congr 1
    · apply List.ext_getElem (by simp [n0])
      intro i h1 h2
      simp only [List.getElem_map, List.getElem_range]
      rw [List.getD_eq_getElem?_getD, List.getElem?_append_left h2, List.getElem?_eq_getElem h2]
      exact (ho _ (List.getElem_mem h2)).2 σ hσl hσt
    · have key : ∀ L : List It, (∀ it ∈ L, it ∈ N) → (L.flatMap fun it => it.os.map fun _ => n0 + pos it).map (fun h => ((os0 ++ osL D).getD h .dead).ren σ) = osL L := by
        intro L
        induction L with
        | nil => intro _; rfl
        | cons a L ih =>
          intro hs
          rw [List.flatMap_cons, List.map_append, ih fun it hit => hs it (by simp [hit])]
          show _ = a.os ++ osL L
          congr 1
          by_cases hv : ∃ z, a.q = .val z
          · obtain ⟨z, hz⟩ := hv
            rw [it_os0 hz]; rfl
          · obtain ⟨o, eo⟩ := it_os1 fun z hz => hv ⟨z, hz⟩
            rw [eo]
            show [((os0 ++ osL D).getD (n0 + pos a) .dead).ren σ] = [o]
            rw [List.getD_eq_getElem?_getD, hobj a (hs a (by simp)) o eo]
            congr 1
            exact ((hN a (hs a (by simp))).1 o (by rw [eo]; simp)).2 σ hσl hσt
      exact key N fun it h => h
  refine Turns.fits (σ := σ) ⟨⟨hσn, fun h hh => ?_⟩, ⟨by show env0.n = (upsL env0 D n0).n; rw [upsL_n], ?_⟩, by rw [hsel]; exact leO_refl _, ?_, ?_⟩
  · rcases List.mem_append.1 hh with hh | hh
    · have := List.mem_range.1 hh; rw [List.length_append]; omega
    · obtain ⟨it, hit, hh⟩ := List.mem_flatMap.1 hh
      obtain ⟨o, ho', rfl⟩ := List.mem_map.1 hh
      have q1 : ∃ o, it.os = [o] := by
        refine it_os1 fun z hz => ?_
        rw [it_os0 hz] at ho'; cases ho'
      obtain ⟨o2, eo2⟩ := q1
      exact (List.getElem?_eq_some_iff.1 (hobj it hit o2 eo2)).1
  · refine leM_app (leM_of fun p hp' => ?_) (leM_of fun p hp' => ?_)
    · obtain ⟨A, B, it, hNe, rfl⟩ := mem_canL hp'
      have hit : it ∈ N := by rw [hNe]; simp
      obtain ⟨A', B', hD, hpa⟩ := hpos it hit
      have hdB : it.d ∉ B'.map (·.d) := by
        rw [hD, List.map_append, List.map_cons] at hDd
        exact (List.nodup_cons.1 (List.nodup_append.1 hDd).2.1).1
      rw [fd_mp, hD, upsL_at it A' B' env0 _ (hdn it hit) hdB]
      show some ((it.r (n0 + (osL A').length)).ren σ) = some (it.r (n0 + (osL A).length))
      congr 1
      by_cases hv : ∃ z, it.q = .val z
      · obtain ⟨z, hz⟩ := hv
        rw [r_val hz, r_val hz]
        exact ((hN it hit).2 z hz).2 σ
      · have hv' : ∀ z, it.q ≠ .val z := fun z hz => hv ⟨z, hz⟩
        rw [← hpa]
        exact r_ren hv' (ixOf_of hσn (hσk A B it hNe (it_os1 hv')))
    · obtain ⟨k1, k2, k3, k4⟩ := hk p hp'
      rw [fd_mp, upsL_fd _ _ _ _ (fun h => k2 ((hp.map (·.d)).mem_iff.1 h)), k1]
      show some (p.2.ren σ) = some p.2
      rw [k4]
  · show (⟨env0.n, (canL N n0 ++ kept).map _⟩ : Env) = _
    congr 1
    rw [List.length_append, List.map_congr_left (g := id) fun p hp' => ?_, List.map_id]
    rcases List.mem_append.1 hp' with hp' | hp'
    · obtain ⟨A, B, it, hNe, rfl⟩ := mem_canL hp'
      have hit : it ∈ N := by rw [hNe]; simp
      show (it.d, (it.r (n0 + (osL A).length)).lim _) = _
      by_cases hv : ∃ z, it.q = .val z
      · obtain ⟨z, hz⟩ := hv
        rw [r_val hz, ((hN it hit).2 z hz).1]; rfl
      · have hv' : ∀ z, it.q ≠ .val z := fun z hz => hv ⟨z, hz⟩
        obtain ⟨o, eo⟩ := it_os1 hv'
        have hlt : (osL A).length < (osL N).length := by
          have := osL_at (A := A) (B := B) eo
          rw [← hNe] at this
          exact (List.getElem?_eq_some_iff.1 this).1
        rw [r_lim hv' (by omega)]; rfl
    · obtain ⟨k1, k2, k3, k4⟩ := hk p hp'
      show (p.1, p.2.lim _) = _
      rw [k3]; rfl
  · rw [List.length_append, List.map_congr_left (g := id) fun o ho' => ?_, List.map_id]
    rcases List.mem_append.1 ho' with ho' | ho'
    · exact (ho o ho').1
    · obtain ⟨it, hit, ho'⟩ := List.mem_flatMap.1 ho'
      exact ((hN it hit).1 o ho').1
/-- The operations N in whatever order: the state after them in the order of N is enough, and that after N' of them, where others may come up. -/
theorem AAnyG.news (N N' : List It) (kept : List (Nat × AV)) {listed : List Bool} {fuel fuel' fuel2 : Nat} (hf : fuel' = fuel + N.length) (hf2 : fuel2 = fuel + (N.length - N'.length)) (hst : ∀ it ∈ N, NStep P qs l env0 os0 N it ∨ NStepQ P qs l env0 os0 N it) (hnd : (N.map (·.i)).Nodup)
    (hds : (N.map (·.d)).Nodup) (hdn : ∀ it ∈ N, it.d < env0.n) (hl0 : ∀ it ∈ N, listed.getD it.i true = false) (hN' : N'.Sublist N)
    (hrd : (subs (N.map (·.i))).all (fun S => !depOk l (N.map (·.i)) S || (S.length == N.length || (N'.map (·.i)).isPerm S || chkR l listed (N.map (·.i)) S)) = true)
    (hk : ∀ p ∈ kept, env0.fd p.1 = some p.2 ∧ p.1 ∉ N.map (·.d) ∧ ∀ M, p.2.lim M = p.2 ∧ ∀ σ, p.2.ren σ = p.2)
    (ho : ∀ M, os0.length ≤ M → ∀ o ∈ os0, Clo os0.length M o) (hN : ∀ M, ∀ it ∈ N, CloI os0.length M it)
    (hstop : AAnyG P qs l fuel2 (lsD listed (N'.map (·.i))) K ⟨env0.n, canL N' os0.length ++ kept⟩ (os0 ++ osL N'))
    (hfin : AAnyG P qs l fuel (lsD listed (N.map (·.i))) K ⟨env0.n, canL N os0.length ++ kept⟩ (os0 ++ osL N)) : AAnyG P qs l fuel' listed K env0 os0 := by
  subst hf hf2
  have hnN : (N'.map (·.i)).Nodup := hnd.sublist (hN'.map _)
  have := AAnyG.newsRun (K := K) (fuel := fuel) (N' := N') (fun z hz => hN'.subset hz) hnN hst hnd hds hdn hl0 hrd (fun D hp => ?_) (fun D hp => ?_) N.length [] N rfl (by simp) (fun k hk => by cases hk)
  · simpa [lsD, upsL, osL] using this
  · rw [lsD_congr (B := N'.map (·.i)) fun k => (hp.map (·.i)).mem_iff]
    refine AAnyG.turns (news_turn hp hnN (hds.sublist (hN'.map _)) (fun it hit => hdn it (hN'.subset hit)) (fun p hp' => ?_) (ho _ (Nat.le_add_right _ _)) fun it hit => hN _ it (hN'.subset hit)) hstop
    obtain ⟨k1, k2, k3⟩ := hk p hp'
    exact ⟨k1, fun h => k2 ((hN'.map (·.d)).subset h), (k3 _).1, (k3 0).2⟩
  · rw [lsD_congr (B := N.map (·.i)) fun k => (hp.map (·.i)).mem_iff]
    refine AAnyG.turns (news_turn hp hnd hds hdn (fun p hp' => ?_) (ho _ (Nat.le_add_right _ _)) (hN _)) hfin
    obtain ⟨k1, k2, k3⟩ := hk p hp'
    exact ⟨k1, k2, (k3 _).1, (k3 0).2⟩
theorem all_nil {α : Type} {p : α → Prop} : ∀ x ∈ ([] : List α), p x := fun _ h => by cases h
theorem all_cons {α : Type} {p : α → Prop} {a : α} {l : List α} (h : p a) (hs : ∀ x ∈ l, p x) : ∀ x ∈ a :: l, p x := fun x hx => by
  rcases List.mem_cons.1 hx with rfl | hx
  · exact h
  · exact hs x hx
theorem clo_own {n0 M i d : Nat} {o : AO} (h : Clo n0 M o) : CloI n0 M ⟨i, d, .own o⟩ := ⟨fun x hx => by simp [It.os] at hx; subst hx; exact h, fun a e => by cases e⟩
theorem clo_ptr {n0 M i d : Nat} {o : AO} (h : Clo n0 M o) : CloI n0 M ⟨i, d, .ptr o⟩ := ⟨fun x hx => by simp [It.os] at hx; subst hx; exact h, fun a e => by cases e⟩
theorem clo_val {n0 M i d : Nat} {a : AV} (h : a.lim M = a) (h2 : ∀ σ, a.ren σ = a) : CloI n0 M ⟨i, d, .val a⟩ := ⟨fun x hx => by simp [It.os] at hx, fun b e => by cases e; exact ⟨h, h2⟩⟩
theorem clo_keep {n0 M n : Nat} {K : Kp} (h : n ≤ n0) (h2 : n ≤ M) : Clo n0 M (.keep n K) := by
  refine ⟨by simp only [AO.lim]; rw [if_pos h2], fun σ h3 h4 => ?_⟩
  simp only [AO.ren]
  rw [if_pos]
  refine ⟨by omega, ?_⟩
  have := congrArg (List.take n) h4
  rw [List.take_take, Nat.min_eq_left h, List.take_range, Nat.min_eq_left h] at this
  exact this
theorem kep_cons {ds : List Nat} {k : Nat} {a : AV} {N : List (Nat × AV)} (h1 : env0.fd k = some a) (h2 : ds.contains k = false) (h3 : ∀ M, a.lim M = a ∧ ∀ σ, a.ren σ = a) (hs : ∀ p ∈ N, env0.fd p.1 = some p.2 ∧ p.1 ∉ ds ∧ ∀ M, p.2.lim M = p.2 ∧ ∀ σ, p.2.ren σ = p.2) :
    ∀ p ∈ (k, a) :: N, env0.fd p.1 = some p.2 ∧ p.1 ∉ ds ∧ ∀ M, p.2.lim M = p.2 ∧ ∀ σ, p.2.ren σ = p.2 := all_cons ⟨h1, by simpa using h2, h3⟩ hs
end
end Go.Proofs.Ythjkpmjdkcainaa
/-
  All branch determinants, walked. Condition: a forest of at most 40 vertices.
-/
namespace Go.Proofs.Ythjkpmjdkcainaa
open Go Go.RowKit
attribute [local irreducible] AWp AOps ResIs Ret1 QOp LOp COp AFnV AFn Imms LeE LeO
set_option maxHeartbeats 1000000
set_option linter.unusedSimpArgs false
set_option linter.unusedVariables false

theorem brF_len (n : Nat) (near : Int → List Int) (W : List Int) : ∀ i, (brF n near W i).2.length ≤ i
  | 0 => Nat.le_refl _
  | i + 1 => by
    have ih := brF_len n near W i
    rw [brF]
    split
    · omega
    · simp only [List.length_append, List.length_cons, List.length_nil]; omega

set_option maxHeartbeats 16000000 in
theorem branchDeterminants_c (W : List Int) (E : List (List Int)) (h : GrF W E) :
    AFnC Try.prog 22 [.agg [.ints W, .intss E]] [] (fun r os => r = .tup [.own 0, .own 1, .own 2, .b (!(brF W.length (nearL E) W W.length).1.l)] ∧
      os = [.sli 2 (brF W.length (nearL E) W W.length).1.f, .sli 2 (brF W.length (nearL E) W W.length).1.g, .sli 2 (brF W.length (nearL E) W W.length).2]) := by
  have hn := h.n
  have hF := h.fo.fst
  have hnb := neighboursOf_c W E h
  have hrun := fun i (hi : i ≤ W.length) => br_run (W := W) hF h.w i hi
  have e0 : (⟨List.replicate (W.length : Int).toNat 0, List.replicate (W.length : Int).toNat 0, List.replicate (W.length : Int).toNat false, false⟩ : WS) = (brF W.length (nearL E) W 0).1 := by rw [Int.toNat_natCast]; rfl
  (refine AFnC.start Try.func22 Try.ntmps22 rfl (by kernel_rfl) fun K => ?_; simp only [Env.start, enumF, List.map_cons, List.map_nil, AV.sh, List.length_cons, List.length_nil, Nat.reduceAdd, Nat.reduceSub, List.cons_append, List.nil_append])
  repeat' (first | (apply AOps.nil; try simp only [List.nil_append, List.cons_append, List.set_cons_zero, List.set_cons_succ, List.length_cons, List.length_nil, Nat.reduceAdd, AV.sh, AV.sh1, AV.sh0, AO.sh, List.map_cons, List.map_nil, Nat.zero_add, Nat.add_zero, setAll]) | (apply w_assign; exact rfl; exact rfl) | apply AWp.seq | apply AWp.region | (apply w_len; exact rfl; exact rfl; first | exact .ints _ | exact .intss _ | exact .sli rfl | exact .sls rfl | exact .slr rfl | exact .orow rfl | exact .nil) | ((first | apply w_ld | apply w_fa); iterate 3 exact rfl) | ((apply w_boxa); iterate 2 exact rfl) | (apply w_ldb; iterate 5 exact rfl))
  refine AWp.regionG [] (by kernel_rfl) (envC := ⟨50, [(6, .i W.length), (7, .optr 6 0)]⟩) (osC := [.keep 1 K, .bx 27 [.ints W, .intss E], .sls 24 2 (nbs W E), .sli 2 (brF W.length (nearL E) W 0).1.f, .sli 2 (brF W.length (nearL E) W 0).1.g, .slr 4 (bL (brF W.length (nearL E) W 0).1.s), .bx 69 [.ints W, .own 2, .own 3, .own 4, .own 5, .b (brF W.length (nearL E) W 0).1.l]]) rfl (by first | exact rfl | (simp [AO.lim, AV.lim, bL_lim]; done)) ?_ ?_
  · rw [← e0]
    repeat' (first | (apply AOps.nil; try simp only [List.nil_append, List.cons_append, List.set_cons_zero, List.set_cons_succ, List.length_cons, List.length_nil, Nat.reduceAdd, AV.sh, AV.sh1, AV.sh0, AO.sh, List.map_cons, List.map_nil, Nat.zero_add, Nat.add_zero, setAll]) | (apply w_move; exact rfl; exact rfl) | (apply AAnyG.takeW; exact rfl; exact rfl; kernel_rfl; kernel_rfl) | ((apply w_fa); iterate 3 exact rfl))
    refine AAnyG.news (fuel := 2) (fuel2 := 3) [⟨1, 14, .val (.ints W)⟩, ⟨2, 15, .val (.agg [.ints W, .intss E])⟩, ⟨3, 16, .own (.sls 24 2 (nbs W E))⟩, ⟨5, 18, .own (.sli 2 (List.replicate (W.length : Int).toNat 0))⟩, ⟨7, 20, .own (.sli 2 (List.replicate (W.length : Int).toNat 0))⟩, ⟨9, 22, .own (.slr 4 (bL (List.replicate (W.length : Int).toNat false)))⟩, ⟨11, 7, .ptr (.bx 69 [.val (.slice none 0 0), .val (.slice none 0 0), .val (.slice none 0 0), .val (.slice none 0 0), .val (.slice none 0 0), .val (.bool false)])⟩]
      [⟨1, 14, .val (.ints W)⟩, ⟨2, 15, .val (.agg [.ints W, .intss E])⟩, ⟨3, 16, .own (.sls 24 2 (nbs W E))⟩, ⟨5, 18, .own (.sli 2 (List.replicate (W.length : Int).toNat 0))⟩, ⟨7, 20, .own (.sli 2 (List.replicate (W.length : Int).toNat 0))⟩, ⟨9, 22, .own (.slr 4 (bL (List.replicate (W.length : Int).toNat false)))⟩] [(6, .i W.length)] rfl rfl
      (all_cons (.inr ⟨_, rfl, rfl, fun env os K' hE hO hd hK => ?_⟩) (all_cons (.inr ⟨_, rfl, rfl, fun env os K' hE hO hd hK => ?_⟩) (all_cons (.inl ⟨_, rfl, rfl, fun env os K' hE hO hd hK => ?_⟩) (all_cons (.inl ⟨_, rfl, rfl, fun env os K' hE hO hd hK => ?_⟩) (all_cons (.inl ⟨_, rfl, rfl, fun env os K' hE hO hd hK => ?_⟩) (all_cons (.inl ⟨_, rfl, rfl, fun env os K' hE hO hd hK => ?_⟩) (all_cons (.inl ⟨_, rfl, rfl, fun env os K' hE hO hd hK => ?_⟩) all_nil)))))))
      (show ([1, 2, 3, 5, 7, 9, 11] : List Nat).Nodup by decide) (show ([14, 15, 16, 18, 20, 22, 7] : List Nat).Nodup by decide) ?_ ?_ (.cons_cons _ (.cons_cons _ (.cons_cons _ (.cons_cons _ (.cons_cons _ (.cons_cons _ (.cons _ .slnil))))))) (by kernel_rfl) (kep_cons rfl rfl (fun _ => ⟨rfl, fun _ => rfl⟩) all_nil) (fun M hM => all_cons (clo_keep (Nat.le_of_ble_eq_true rfl) (Nat.le_trans (Nat.le_of_ble_eq_true rfl) hM)) (all_cons ⟨rfl, fun _ _ _ => rfl⟩ all_nil))
      (fun M => all_cons (clo_val rfl fun _ => rfl) (all_cons (clo_val rfl fun _ => rfl) (all_cons (clo_own ⟨rfl, fun _ _ _ => rfl⟩) (all_cons (clo_own ⟨rfl, fun _ _ _ => rfl⟩) (all_cons (clo_own ⟨rfl, fun _ _ _ => rfl⟩) (all_cons (clo_own ⟨congrArg (AO.slr _) (bL_lim _ _), fun _ _ _ => congrArg (AO.slr _) (bL_ren _ _)⟩) (all_cons (clo_ptr ⟨rfl, fun _ _ _ => rfl⟩) all_nil))))))) ?_ ?_
    · obtain ⟨t, rfl⟩ := hO
      refine w_ldb rfl rfl ((hE.2 13 (show 13 ∉ ([14, 15, 16, 18, 20, 22, 7] : List Nat) by decide)).trans rfl) rfl rfl (AOps.nil ?_)
      simpa [It.os, It.r] using hK
    · obtain ⟨t, rfl⟩ := hO
      refine w_ldst rfl rfl ((hE.2 1 (show 1 ∉ ([14, 15, 16, 18, 20, 22, 7] : List Nat) by decide)).trans rfl) rfl rfl ?_
      refine AOps.nil ?_
      simpa [It.os, It.r] using hK
    · have h15 := hd ⟨2, 15, .val (.agg [.ints W, .intss E])⟩ (by simp) _ rfl rfl
      refine w_callm hnb (im_cons h15 (im_agg2 (.ints _) (.intss _)) im_nil) ?_
      rintro r os0 ⟨rfl, rfl⟩
      refine AOps.nil ?_
      simpa [It.os, It.r, AV.sh, AO.sh] using hK
    · refine w_mki ((hE.2 17 (show 17 ∉ ([14, 15, 16, 18, 20, 22, 7] : List Nat) by decide)).trans rfl) ((hE.2 17 (show 17 ∉ ([14, 15, 16, 18, 20, 22, 7] : List Nat) by decide)).trans rfl) (by omega) (by omega) (by omega) rfl ?_
      exact AOps.nil hK
    · refine w_mki ((hE.2 19 (show 19 ∉ ([14, 15, 16, 18, 20, 22, 7] : List Nat) by decide)).trans rfl) ((hE.2 19 (show 19 ∉ ([14, 15, 16, 18, 20, 22, 7] : List Nat) by decide)).trans rfl) (by omega) (by omega) (by omega) rfl ?_
      exact AOps.nil hK
    · refine w_mkb ((hE.2 21 (show 21 ∉ ([14, 15, 16, 18, 20, 22, 7] : List Nat) by decide)).trans rfl) ((hE.2 21 (show 21 ∉ ([14, 15, 16, 18, 20, 22, 7] : List Nat) by decide)).trans rfl) (by omega) (by omega) (by omega) rfl ?_
      exact AOps.nil hK
    · refine w_alst rfl rfl ?_
      exact AOps.nil hK
    · exact all_cons (show 14 < 50 by decide) (all_cons (show 15 < 50 by decide) (all_cons (show 16 < 50 by decide) (all_cons (show 18 < 50 by decide) (all_cons (show 20 < 50 by decide) (all_cons (show 22 < 50 by decide) (all_cons (show 7 < 50 by decide) all_nil))))))
    · exact all_cons rfl (all_cons rfl (all_cons rfl (all_cons rfl (all_cons rfl (all_cons rfl (all_cons rfl all_nil))))))
    all_goals simp only [canL, It.r, It.os, osL, List.flatMap_cons, List.flatMap_nil, List.length_cons, List.length_nil, List.cons_append, List.nil_append, Nat.reduceAdd, Nat.zero_add, Nat.add_zero, List.append_nil]
    all_goals repeat' (first | (apply AOps.nil; try simp only [List.nil_append, List.cons_append, List.set_cons_zero, List.set_cons_succ, List.length_cons, List.length_nil, Nat.reduceAdd, AV.sh, AV.sh1, AV.sh0, AO.sh, List.map_cons, List.map_nil, Nat.zero_add, Nat.add_zero, setAll]) | (apply w_build56; exact rfl; exact rfl; exact rfl; exact rfl; exact rfl; exact rfl; exact rfl; (exact one_ints); (exact one_own rfl True.intro); (exact one_own rfl True.intro); (exact one_own rfl True.intro); (exact one_own rfl True.intro)) | apply AllOfG.nil | (apply AllOfG.consS; exact rfl; exact rfl) | (apply AAnyG.takeW; exact rfl; exact rfl; kernel_rfl; kernel_rfl) | (apply AAnyG.all; exact rfl) | (apply AAnyG.done; exact rfl) | (apply w_alst; iterate 2 exact rfl) | (apply w_stst; iterate 5 exact rfl))
    all_goals (apply Or.inl; refine ⟨lee rfl ?_, ?_, rfl, (by first | exact rfl | (simp [AO.lim, AV.lim, bL_lim]; done))⟩; (focus ((repeat (first | exact le_nil | refine le_eq rfl rfl ?_)); done)); (focus ((repeat (first | exact lo_nil | refine lo_eq rfl ?_)); done)))
  refine AWp.turns (Turns.freeze (k := 2) rfl) ?_
  simp only [Env.mp, List.map_cons, List.map_nil, List.set_cons_zero, List.set_cons_succ, AV.frz, AV.frz1, AO.frz, bL_frz, reduceIte, Nat.reduceEqDiff, Nat.zero_ne_one, Nat.one_ne_zero]
  repeat' (first | (apply AOps.nil; try simp only [List.nil_append, List.cons_append, List.set_cons_zero, List.set_cons_succ, List.length_cons, List.length_nil, Nat.reduceAdd, AV.sh, AV.sh1, AV.sh0, AO.sh, List.map_cons, List.map_nil, Nat.zero_add, Nat.add_zero, setAll]) | (apply w_move; exact rfl; exact rfl) | (apply w_assign; exact rfl; exact rfl) | apply AWp.seq | apply AWp.region | apply AWp.block | (apply w_bs0; iterate 1 exact rfl))
  refine AWp.loop (ι := Nat) (fun i => ⟨50, [(6, .i W.length), (7, .optr 6 0), (8, .own 7), (25, .i W.length), (26, .i i)]⟩) (fun i => [.keep 1 K, .bx 27 [.ints W, .intss E], .dead, .sli 2 (brF W.length (nearL E) W i).1.f, .sli 2 (brF W.length (nearL E) W i).1.g, .slr 4 (bL (brF W.length (nearL E) W i).1.s), .bx 69 [.ints W, .intss (nbs W E), .own 3, .own 4, .own 5, .b (brF W.length (nearL E) W i).1.l], .sli 2 (brF W.length (nearL E) W i).2])
    (fun i => i ≤ W.length) (fun i => W.length - i) 0 (by omega) ⟨lee rfl (by (repeat (first | exact le_nil | refine le_eq rfl rfl ?_))), by (repeat (first | exact lo_nil | refine lo_dead ?_ | refine lo_eq rfl ?_)), rfl, (by first | exact rfl | (simp [AO.lim, AV.lim, bL_lim]; done))⟩ ?_
  intro i i0
  have hi0 := hrun i i0
  have ok := hi0.ok
  have cn := hi0.cnt
  have ls := ok.ls
  have lf := ok.lf
  have lg := ok.lg
  by_cases hi : i < W.length
  · have hstep : brF W.length (nearL E) W (i + 1) = if (brF W.length (nearL E) W i).1.sn (i : Nat) = true then brF W.length (nearL E) W i else (visF W (nearL E) W.length (i : Nat) (brF W.length (nearL E) W i).1, (brF W.length (nearL E) W i).2 ++ [(i : Int)]) := rfl
    have hbl : ((brF W.length (nearL E) W i).2.length + [(i : Int)].length) * 8 ≤ 140737488355328 := by
      have := brF_len W.length (nearL E) W i
      simp only [List.length_cons, List.length_nil]; omega
    generalize brF W.length (nearL E) W i = b at *
    cases hsc : b.1.sn (i : Nat) with
    | true =>
      rw [hsc, if_pos rfl] at hstep
      rw [sn_get] at hsc
      repeat' (first | (apply AOps.nil; try simp only [List.nil_append, List.cons_append, List.set_cons_zero, List.set_cons_succ, List.length_cons, List.length_nil, Nat.reduceAdd, AV.sh, AV.sh1, AV.sh0, AO.sh, List.map_cons, List.map_nil, Nat.zero_add, Nat.add_zero, setAll]) | (apply w_move; exact rfl; exact rfl) | (apply w_assign; exact rfl; exact rfl) | apply AWp.seq | apply AWp.region | ((apply AWp.condP; exact rfl) <;> intro h) | ((apply AWp.condB; exact rfl) <;> intro h) | apply AWp.block | apply AWp.exit | apply AWp.skip | (apply w_idxb; iterate 4 exact rfl) | (apply w_ldbl; iterate 4 exact rfl) | ((first | apply w_not | apply w_bs1); iterate 2 exact rfl) | ((first | apply w_lss | apply w_add | apply w_ld | apply w_fa); iterate 3 exact rfl) | omega | (apply w_ldb; iterate 5 exact rfl) | (apply w_app; exact rfl; exact rfl; exact rfl; exact rfl; (exact .sli rfl); rotate_left 1; simp only [Env.mp, List.map_cons, List.map_nil, List.set_cons_zero, List.set_cons_succ, AV.kill, AV.kill1, AO.kill, bL_kill, AV.noRow, AV.noRow1, AO.via, reduceIte, Nat.reduceEqDiff, Nat.reduceLT, Env.up, Nat.zero_ne_one, Nat.one_ne_zero, Nat.reduceAdd, List.cons_append, List.nil_append]; rotate_left 1) | (apply inI_of <;> omega))
      all_goals try (exfalso; simp_all; done)
      exact ⟨i + 1, by omega, by omega, by rw [hstep]; exact ⟨lee rfl (by (repeat (first | exact le_nil | refine le_eq rfl rfl ?_))), by (repeat (first | exact lo_nil | refine lo_dead ?_ | refine lo_eq rfl ?_)), rfl, (by first | exact rfl | (simp [AO.lim, AV.lim, bL_lim]; done))⟩⟩
    | false =>
      rw [hsc, if_neg (by decide)] at hstep
      have hcall := visit_c W E h W.length (i : Nat) b.1 ok cn ⟨by omega, by omega⟩ hsc
      rw [sn_get] at hsc
      generalize visF W (nearL E) W.length (i : Nat) b.1 = u at *
      repeat' (first | (apply AOps.nil; try simp only [List.nil_append, List.cons_append, List.set_cons_zero, List.set_cons_succ, List.length_cons, List.length_nil, Nat.reduceAdd, AV.sh, AV.sh1, AV.sh0, AO.sh, List.map_cons, List.map_nil, Nat.zero_add, Nat.add_zero, setAll]) | (apply w_move; exact rfl; exact rfl) | (apply w_assign; exact rfl; exact rfl) | apply AWp.seq | apply AWp.region | ((apply AWp.condP; exact rfl) <;> intro h) | ((apply AWp.condB; exact rfl) <;> intro h) | apply AWp.block | apply AWp.exit | apply AWp.skip | (apply w_idxb; iterate 4 exact rfl) | (apply w_ldbl; iterate 4 exact rfl) | ((first | apply w_not | apply w_bs1); iterate 2 exact rfl) | ((first | apply w_lss | apply w_add | apply w_ld | apply w_fa); iterate 3 exact rfl) | (apply w_callb (hcall); exact rfl; exact rfl; exact rfl; exact rfl; exact rfl; exact rfl; exact rfl; (exact rdI_ints _); (exact rdN_intss _); exact rfl; try simp only [List.nil_append, List.cons_append, List.set_cons_zero, List.set_cons_succ, List.length_cons, List.length_nil, Nat.reduceAdd, AV.sh, AV.sh1, AV.sh0, AO.sh, List.map_cons, List.map_nil, Nat.zero_add, Nat.add_zero, setAll]) | omega | (apply w_ldb; iterate 5 exact rfl) | (apply w_app; exact rfl; exact rfl; exact rfl; exact rfl; (exact .sli rfl); rotate_left 1; simp only [Env.mp, List.map_cons, List.map_nil, List.set_cons_zero, List.set_cons_succ, AV.kill, AV.kill1, AO.kill, bL_kill, AV.noRow, AV.noRow1, AO.via, reduceIte, Nat.reduceEqDiff, Nat.reduceLT, Env.up, Nat.zero_ne_one, Nat.one_ne_zero, Nat.reduceAdd, List.cons_append, List.nil_append]; rotate_left 1) | (apply inI_of <;> omega))
      all_goals try (exfalso; simp_all; done)
      exact ⟨i + 1, by omega, by omega, by rw [hstep]; exact ⟨lee rfl (by (repeat (first | exact le_nil | refine le_eq rfl rfl ?_))), by (repeat (first | exact lo_nil | refine lo_dead ?_ | refine lo_eq rfl ?_)), rfl, (by first | exact rfl | (simp [AO.lim, AV.lim, bL_lim]; done))⟩⟩
  · have ei : i = W.length := by omega
    subst ei
    repeat' (first | (apply AOps.nil; try simp only [List.nil_append, List.cons_append, List.set_cons_zero, List.set_cons_succ, List.length_cons, List.length_nil, Nat.reduceAdd, AV.sh, AV.sh1, AV.sh0, AO.sh, List.map_cons, List.map_nil, Nat.zero_add, Nat.add_zero, setAll]) | (apply w_move; exact rfl; exact rfl) | (apply w_assign; exact rfl; exact rfl) | apply AWp.seq | apply AWp.region | ((apply AWp.condP; exact rfl) <;> intro h) | apply AWp.block | apply AWp.exit | apply AWp.skip | ((first | apply w_lss | apply w_ld | apply w_fa); iterate 3 exact rfl) | omega)
    all_goals try (exfalso; omega)
    refine AWp.regionG [] (by kernel_rfl) (envC := ⟨50, [(2, .own 1), (3, .own 2), (4, .own 3), (5, .b (!(brF W.length (nearL E) W W.length).1.l))]⟩) (osC := [.keep 1 K, .sli 2 (brF W.length (nearL E) W W.length).1.f, .sli 2 (brF W.length (nearL E) W W.length).1.g, .sli 2 (brF W.length (nearL E) W W.length).2]) rfl (by first | exact rfl | (simp [AO.lim, AV.lim, bL_lim]; done)) ?_ ?_
    · repeat' (first | (apply AOps.nil; try simp only [List.nil_append, List.cons_append, List.set_cons_zero, List.set_cons_succ, List.length_cons, List.length_nil, Nat.reduceAdd, AV.sh, AV.sh1, AV.sh0, AO.sh, List.map_cons, List.map_nil, Nat.zero_add, Nat.add_zero, setAll]) | (apply w_move; exact rfl; exact rfl) | (apply w_assign; exact rfl; exact rfl) | (apply AAnyG.takeW; exact rfl; exact rfl; kernel_rfl; kernel_rfl) | (apply AAnyG.takeL; exact rfl; exact rfl; kernel_rfl) | (apply AAnyG.done; exact rfl) | ((apply w_not); iterate 2 exact rfl) | ((first | apply w_ld | apply w_fa); iterate 3 exact rfl) | (apply w_ldb; iterate 5 exact rfl))
      all_goals (apply Or.inr; refine ⟨[0, 3, 4, 7], ⟨by decide, fun x hx => Nat.lt_of_lt_of_le ((by decide : ∀ x ∈ ([0, 3, 4, 7] : List Nat), x < 8) x hx) (Nat.le_of_ble_eq_true rfl)⟩, lee rfl ?_, ?_, rfl, (by first | exact rfl | (simp [AO.lim, AV.lim, bL_lim]; done))⟩; (focus ((repeat (first | exact le_nil | refine le_eq rfl rfl ?_)); done)); (focus ((repeat (first | exact lo_nil | refine lo_eq rfl ?_)); done)))
    repeat' (apply AWp.ret)
    refine ⟨_, _, .tup [.own 0, .own 1, .own 2, .b (!(brF W.length (nearL E) W W.length).1.l)], Turns.refl, ResIs.a4 rfl rfl rfl rfl rfl, ?_, ⟨rfl, rfl⟩, ?_⟩
    · exact all_cons trivial (all_cons trivial (all_cons trivial (all_cons trivial all_nil)))
    · intro o ho
      simp only [List.mem_cons, List.not_mem_nil, or_false] at ho
      rcases ho with rfl | rfl | rfl
      · trivial
      · trivial
      · trivial
end Go.Proofs.Ythjkpmjdkcainaa
/-
  Components by labels: the number of roots tells whether all edges join two components. No condition.
-/
set_option linter.unusedSimpArgs false
set_option linter.unusedVariables false
namespace Go.Proofs.Ythjkpmjdkcainaa
open Go Go.RowKit

theorem geti_set0 {p : List Int} {u v x : Int} (h0 : 0 ≤ u) (hx : 0 ≤ x) (h1 : u < p.length) : geti (p.set u.toNat v) x = if x = u then v else geti p x := by
  simp only [geti, List.getD_eq_getElem?_getD, List.getElem?_set]
  by_cases e : x = u
  · subst e; rw [if_pos rfl, if_pos (by omega), if_pos rfl]; rfl
  · rw [if_neg (by omega), if_neg e]
def idL (n : Nat) : List Int := (List.range n).map fun (i : Nat) => (i : Int)
theorem idL_len (n : Nat) : (idL n).length = n := by simp [idL]
theorem idL_get {n : Nat} {x : Int} (h : 0 ≤ x ∧ x < n) : geti (idL n) x = x := by
  obtain ⟨m, rfl⟩ := Int.eq_ofNat_of_zero_le h.1
  have : m < n := by omega
  simp [geti, idL, List.getD_eq_getElem?_getD, this]
/-- The lesser label stays. -/
def mmL (L : List Int) (e : List Int) : List Int := mgL L (min (geti L (geti e 0)) (geti L (geti e 1))) (max (geti L (geti e 0)) (geti L (geti e 1)))
def lbR : List Int → List (List Int) → List Int
  | L, [] => L
  | L, e :: E => lbR (mmL L e) E
theorem lbR_app : ∀ (A B : List (List Int)) (L : List Int), lbR L (A ++ B) = lbR (lbR L A) B
  | [], _, _ => rfl
  | _ :: A, B, L => lbR_app A B _
structure RI (n : Nat) (L : List Int) : Prop where
  len : L.length = n
  lo : ∀ x : Int, 0 ≤ x → x < n → 0 ≤ geti L x
  hi : ∀ x : Int, 0 ≤ x → x < n → geti L x ≤ x
  idem : ∀ x : Int, 0 ≤ x → x < n → geti L (geti L x) = geti L x
theorem RI.id (n : Nat) : RI n (idL n) := ⟨idL_len n, fun x h0 h1 => by rw [idL_get ⟨h0, h1⟩]; exact h0, fun x h0 h1 => by rw [idL_get ⟨h0, h1⟩]; exact Int.le_refl _, fun x h0 h1 => by rw [idL_get ⟨h0, h1⟩, idL_get ⟨h0, h1⟩]⟩
def rcL (L : List Int) (i : Nat) : Nat := ((List.range i).filter fun x => decide (geti L (x : Nat) = (x : Nat))).length
theorem rc_id (n : Nat) : ∀ i, i ≤ n → rcL (idL n) i = i := fun i hi => by
  unfold rcL
  rw [List.filter_eq_self.2, List.length_range]
  intro x hx
  have := List.mem_range.1 hx
  exact decide_eq_true (idL_get ⟨by omega, by omega⟩)
theorem rc_succ (L : List Int) (i : Nat) : rcL L (i + 1) = rcL L i + if geti L (i : Nat) = (i : Nat) then 1 else 0 := by
  unfold rcL
  rw [List.range_succ, List.filter_append, List.length_append]
  congr 1
  by_cases h : geti L (i : Nat) = (i : Nat)
  · rw [if_pos h, List.filter_cons_of_pos (by exact decide_eq_true h)]; rfl
  · rw [if_neg h, List.filter_cons_of_neg (by simpa using h)]; rfl
/-- A merge of two roots. -/
theorem RI.merge {n : Nat} {L : List Int} (h : RI n L) {a b : Int} (ha : 0 ≤ a) (hab : a < b) (hb : b < n) (ra : geti L a = a) (rb : geti L b = b) :
    RI n (mgL L a b) ∧ ∀ i : Nat, i ≤ n → rcL (mgL L a b) i + (if b < i then 1 else 0) = rcL L i := by
  have hl := h.len
  have hg : ∀ x : Int, 0 ≤ x → x < n → geti (mgL L a b) x = if geti L x = b then a else geti L x := fun x h0 h1 => mgL_get h0 (by omega)
  refine ⟨⟨by rw [mgL_len]; exact hl, fun x h0 h1 => ?_, fun x h0 h1 => ?_, fun x h0 h1 => ?_⟩, ?_⟩
  · rw [hg x h0 h1]; split
    · exact ha
    · exact h.lo x h0 h1
  · rw [hg x h0 h1]; have := h.hi x h0 h1; split
    · omega
    · exact this
  · have l1 := h.lo x h0 h1
    have l2 := h.hi x h0 h1
    rw [hg x h0 h1]
    by_cases e : geti L x = b
    · rw [if_pos e, hg a ha (by omega), ra, if_neg (by omega)]
    · rw [if_neg e, hg _ l1 (by omega), h.idem x h0 h1, if_neg e]
  · intro i
    induction i with
    | zero => intro _; rw [if_neg (by omega)]; rfl
    | succ i ih =>
      intro hi
      have ih := ih (by omega)
      rw [rc_succ, rc_succ, hg (i : Nat) (by omega) (by omega)]
      by_cases e : (i : Int) = b
      · subst e
        rw [if_pos rb, if_neg (by omega), if_pos (by omega), if_pos rb]
        rw [if_neg (by omega)] at ih; omega
      · have e2 : (b < ((i + 1 : Nat) : Int)) ↔ (b < (i : Nat)) := by omega
        have e3 : ((if geti L (i : Nat) = b then a else geti L (i : Nat)) = (i : Nat)) ↔ geti L (i : Nat) = (i : Nat) := by
          by_cases e4 : geti L (i : Nat) = b
          · rw [if_pos e4]
            constructor
            · intro h5; rw [← h5, ra] at e4; omega
            · intro h5; omega
          · rw [if_neg e4]
        simp only [e2, e3]; omega
theorem mgL_self (L : List Int) (a : Int) : mgL L a a = L := by
  unfold mgL
  conv => rhs; rw [← List.map_id L]
  apply List.map_congr_left
  intro x _
  split
  · rename_i h; exact h.symm
  · rfl
theorem RI.mm {n : Nat} {L : List Int} (h : RI n L) {e : List Int} (he : EIn n e) :
    RI n (mmL L e) ∧ rcL (mmL L e) n + (if geti L (geti e 0) = geti L (geti e 1) then 0 else 1) = rcL L n := by
  obtain ⟨_, e2, e3, e4⟩ := he
  have l1 := h.lo _ e2 (by omega)
  have l2 := h.hi _ e2 (by omega)
  have l3 := h.lo (geti e 1) (by omega) e4
  have l4 := h.hi (geti e 1) (by omega) e4
  have i1 := h.idem _ e2 (by omega)
  have i2 := h.idem (geti e 1) (by omega) e4
  unfold mmL
  generalize geti L (geti e 0) = a at *
  generalize geti L (geti e 1) = b at *
  rcases Int.lt_trichotomy a b with hab | hab | hab
  · rw [Int.min_eq_left (by omega), Int.max_eq_right (by omega)]
    obtain ⟨q1, q2⟩ := h.merge l1 hab (by omega) i1 i2
    have := q2 n (Nat.le_refl _)
    rw [if_pos (by omega)] at this
    exact ⟨q1, by rw [if_neg (by omega)]; exact this⟩
  · subst hab
    rw [Int.min_self, Int.max_self, mgL_self]
    exact ⟨h, by rw [if_pos rfl]; rfl⟩
  · rw [Int.min_eq_right (by omega), Int.max_eq_left (by omega)]
    obtain ⟨q1, q2⟩ := h.merge l3 hab (by omega) i2 i1
    have := q2 n (Nat.le_refl _)
    rw [if_pos (by omega)] at this
    exact ⟨q1, by rw [if_neg (by omega)]; exact this⟩
/-- Two labellings tell the same vertices apart. -/
def Same (n : Nat) (L M : List Int) : Prop := ∀ x y : Int, 0 ≤ x → x < n → 0 ≤ y → y < n → (geti L x = geti L y ↔ geti M x = geti M y)
theorem mg_eq {L : List Int} {a b : Int} {u v : Int} (hu : 0 ≤ u ∧ u < L.length) (hv : 0 ≤ v ∧ v < L.length) :
    geti (mgL L a b) u = geti (mgL L a b) v ↔ (geti L u = geti L v ∨ ((geti L u = a ∨ geti L u = b) ∧ (geti L v = a ∨ geti L v = b))) := by
  rw [mgL_get hu.1 hu.2, mgL_get hv.1 hv.2]
  by_cases h1 : geti L u = b <;> by_cases h2 : geti L v = b <;> simp only [h1, h2, if_true, if_false, or_true, or_false, true_and, false_or, and_true, iff_true, true_iff] <;> omega
theorem mm_eq {n : Nat} {L : List Int} {e : List Int} (hl : L.length = n) {u v : Int} (hu : 0 ≤ u ∧ u < n) (hv : 0 ≤ v ∧ v < n) :
    geti (mmL L e) u = geti (mmL L e) v ↔ (geti L u = geti L v ∨ ((geti L u = geti L (geti e 0) ∨ geti L u = geti L (geti e 1)) ∧ (geti L v = geti L (geti e 0) ∨ geti L v = geti L (geti e 1)))) := by
  unfold mmL
  rw [mg_eq (by omega) (by omega)]
  rcases Int.le_total (geti L (geti e 0)) (geti L (geti e 1)) with h | h
  · rw [Int.min_eq_left h, Int.max_eq_right h]
  · rw [Int.min_eq_right h, Int.max_eq_left h]; constructor <;> (intro h; rcases h with h | ⟨h1, h2⟩) <;> simp_all [or_comm]
theorem Same.step {n : Nat} {L M : List Int} (h : Same n L M) (hl : L.length = n) (hm : M.length = n) {e : List Int} (he : EIn n e) :
    Same n (mmL L e) (mgL M (geti M (geti e 0)) (geti M (geti e 1))) := by
  obtain ⟨_, e2, e3, e4⟩ := he
  intro x y h0 h1 h2 h3
  rw [mm_eq hl ⟨h0, h1⟩ ⟨h2, h3⟩, mg_eq (by omega) (by omega), h x y h0 h1 h2 h3, h x _ h0 h1 e2 (by omega), h x (geti e 1) h0 h1 (by omega) e4, h y _ h2 h3 e2 (by omega), h y (geti e 1) h2 h3 (by omega) e4]
theorem rc_run {n : Nat} : ∀ {E : List (List Int)} {L M : List Int}, RI n L → Same n L M → M.length = n → (∀ e ∈ E, EIn n e) →
    RI n (lbR L E) ∧ rcL L n ≤ rcL (lbR L E) n + E.length ∧ (rcL (lbR L E) n + E.length = rcL L n ↔ effL M E)
  | [], L, M, h, _, _, _ => ⟨h, by simp [lbR], by simp [lbR, effL]⟩
  | e :: E, L, M, h, hs, hm, hE => by
    have he := hE e (by simp)
    obtain ⟨q1, q2⟩ := h.mm he
    obtain ⟨_, e2, e3, e4⟩ := id he
    have hsame := hs (geti e 0) (geti e 1) e2 (by omega) (by omega) e4
    obtain ⟨r1, r2, r3⟩ := rc_run (E := E) q1 (hs.step h.len hm he) (by rw [mgL_len]; exact hm) fun f hf => hE f (by simp [hf])
    refine ⟨r1, ?_, ?_⟩
    · show rcL L n ≤ rcL (lbR (mmL L e) E) n + (E.length + 1)
      split at q2 <;> omega
    · show rcL (lbR (mmL L e) E) n + (E.length + 1) = rcL L n ↔ (geti M (geti e 0) ≠ geti M (geti e 1) ∧ effL _ E)
      rw [← r3]
      constructor
      · intro h5
        have h6 : ¬ geti L (geti e 0) = geti L (geti e 1) := by
          intro h7; rw [if_pos h7] at q2; omega
        rw [if_neg h6] at q2
        exact ⟨fun h8 => h6 (hsame.2 h8), by omega⟩
      · rintro ⟨h5, h6⟩
        rw [if_neg (fun h8 => h5 (hsame.1 h8))] at q2
        omega
/-- The new numbers. -/
def nmF (L : List Int) : Nat → List Int × Int
  | 0 => (L, 0)
  | i + 1 => if geti (nmF L i).1 (i : Nat) = (i : Nat) then ((nmF L i).1.set i (nmF L i).2, (nmF L i).2 + 1) else ((nmF L i).1.set i (geti (nmF L i).1 (geti (nmF L i).1 (i : Nat))), (nmF L i).2)
structure NmI (n : Nat) (L : List Int) (i : Nat) (s : List Int × Int) : Prop where
  len : s.1.length = n
  num : s.2 = rcL L i
  old : ∀ x : Int, (i : Int) ≤ x → geti s.1 x = geti L x
  lo : ∀ x : Int, 0 ≤ x → x < i → 0 ≤ geti s.1 x
  hi : ∀ x : Int, 0 ≤ x → x < i → geti s.1 x < s.2
  top : 0 < i → ∃ x : Int, 0 ≤ x ∧ x < i ∧ geti s.1 x = s.2 - 1
theorem nm_run {n : Nat} {L : List Int} (h : RI n L) : ∀ i, i ≤ n → NmI n L i (nmF L i)
  | 0, _ => ⟨h.len, by simp [nmF, rcL], fun _ _ => rfl, fun x h0 h1 => by omega, fun x h0 h1 => by omega, fun h => by omega⟩
  | i + 1, hi => by
    have ih := nm_run h i (by omega)
    have hr := rc_succ L i
    have ho := ih.old (i : Nat) (Int.le_refl _)
    have hl := ih.len
    have hnum := ih.num
    have l1 := h.lo (i : Nat) (by omega) (by omega)
    have l2 := h.hi (i : Nat) (by omega) (by omega)
    rw [nmF]
    have hset : ∀ v x : Int, 0 ≤ x → geti ((nmF L i).1.set i v) x = if x = (i : Nat) then v else geti (nmF L i).1 x := fun v x hx => by
      have := geti_set0 (p := (nmF L i).1) (u := (i : Nat)) (v := v) (x := x) (by omega) hx (by omega)
      simpa using this
    rw [ho]
    by_cases hc : geti L (i : Nat) = (i : Nat)
    · rw [if_pos hc] at hr ⊢
      refine ⟨by simp [hl], by simp only; omega, fun x hx => ?_, fun x h0 h1 => ?_, fun x h0 h1 => ?_, fun _ => ⟨(i : Nat), by omega, by omega, ?_⟩⟩
      · rw [hset _ _ (by omega), if_neg (by omega)]; exact ih.old x (by omega)
      · rw [hset _ _ h0]; split
        · omega
        · exact ih.lo x h0 (by omega)
      · rw [hset _ _ h0]; dsimp only; split
        · omega
        · have := ih.hi x h0 (by omega); omega
      · rw [hset _ _ (by omega), if_pos rfl]; dsimp only; omega
    · rw [if_neg hc] at hr ⊢
      have h3 : geti L (i : Nat) < (i : Nat) := by omega
      have g1 := ih.lo _ l1 h3
      have g2 := ih.hi _ l1 h3
      refine ⟨by simp [hl], by simp only; omega, fun x hx => ?_, fun x h0 h1 => ?_, fun x h0 h1 => ?_, fun _ => ?_⟩
      · rw [hset _ _ (by omega), if_neg (by omega)]; exact ih.old x (by omega)
      · rw [hset _ _ h0]; split
        · exact g1
        · exact ih.lo x h0 (by omega)
      · rw [hset _ _ h0]; dsimp only; split
        · exact g2
        · exact ih.hi x h0 (by omega)
      · obtain ⟨x, x0, x1, x2⟩ := ih.top (by omega)
        exact ⟨x, x0, by omega, by rw [hset _ _ x0, if_neg (by omega)]; exact x2⟩
/-- The labels of the components. -/
def labF (n : Nat) (E : List (List Int)) : List Int := (nmF (lbR (idL n) E) n).1
theorem lab_max {n : Nat} {E : List (List Int)} (hn : 0 < n) (hE : ∀ e ∈ E, EIn n e) :
    (labF n E).length = n ∧ ∃ m : Int, (∀ x ∈ labF n E, 0 ≤ x ∧ x ≤ m) ∧ m ∈ labF n E ∧ 0 ≤ m ∧ m < n ∧ (m + 1 + E.length = n ↔ effL (idL n) E) := by
  obtain ⟨r1, r2, r3⟩ := rc_run (E := E) (RI.id n) (M := idL n) (fun _ _ _ _ _ _ => Iff.rfl) (idL_len n) hE
  rw [rc_id n n (Nat.le_refl _)] at r2 r3
  have h := nm_run r1 n (Nat.le_refl _)
  have hnum := h.num
  unfold labF
  obtain ⟨x, x0, x1, x2⟩ := h.top hn
  have hx := h.lo x x0 x1
  have hle : rcL (lbR (idL n) E) n ≤ n := by
    unfold rcL
    exact Nat.le_trans (List.length_filter_le _ _) (by simp)
  have hl := h.len
  refine ⟨h.len, (nmF (lbR (idL n) E) n).2 - 1, fun y hy => ?_, ?_, by omega, by omega, ?_⟩
  · obtain ⟨k, hk, rfl⟩ := List.getElem_of_mem hy
    have e : geti (nmF (lbR (idL n) E) n).1 (k : Nat) = (nmF (lbR (idL n) E) n).1[k] := by simp [geti, List.getD_eq_getElem?_getD, List.getElem?_eq_getElem hk]
    have a1 := h.lo (k : Nat) (by omega) (by omega)
    have a2 := h.hi (k : Nat) (by omega) (by omega)
    omega
  · rw [← x2]
    have hk : x.toNat < (nmF (lbR (idL n) E) n).1.length := by omega
    simp only [geti, List.getD_eq_getElem?_getD, List.getElem?_eq_getElem hk, Option.getD_some]
    exact List.getElem_mem hk
  · rw [← r3]; omega
end Go.Proofs.Ythjkpmjdkcainaa
/-
  Labels of components, walked. Condition: edges of at most 40 vertices.
-/
namespace Go.Proofs.Ythjkpmjdkcainaa
open Go Go.RowKit
attribute [local irreducible] AWp AOps ResIs Ret1 QOp LOp COp AFnV AFn Imms LeE LeO
set_option maxHeartbeats 1000000
set_option linter.unusedSimpArgs false
set_option linter.unusedVariables false

/-- A merge that is under way. -/
def mgT (L : List Int) (a b : Int) (i : Nat) : List Int := mgL (L.take i) a b ++ L.drop i
theorem mgT_len (L : List Int) (a b : Int) (i : Nat) : (mgT L a b i).length = L.length := by
  unfold mgT; rw [List.length_append, mgL_len, List.length_take, List.length_drop]; omega
theorem mgT_at {L : List Int} {a b : Int} {i : Nat} (h : i < L.length) : geti (mgT L a b i) (i : Nat) = geti L (i : Nat) := by
  unfold mgT geti
  rw [List.getD_eq_getElem?_getD, List.getD_eq_getElem?_getD, List.getElem?_append_right (by rw [mgL_len, List.length_take]; omega), mgL_len, List.length_take, List.getElem?_drop]
  congr 2; omega
theorem mgT_eq {L : List Int} {a b : Int} {i : Nat} (h : i < L.length) : mgT L a b (i + 1) = (mgT L a b i).set i (if geti L (i : Nat) = b then a else geti L (i : Nat)) := by
  have e1 : L.take (i + 1) = L.take i ++ [geti L (i : Nat)] := take_geti h
  have e2 : L.drop i = geti L (i : Nat) :: L.drop (i + 1) := by rw [List.drop_eq_getElem_cons h]; simp [geti, List.getD_eq_getElem?_getD, List.getElem?_eq_getElem h]
  have e3 : (mgL (L.take i) a b).length = i := by rw [mgL_len, List.length_take]; omega
  unfold mgT
  rw [e1, e2]
  unfold mgL
  rw [List.map_append, List.append_assoc, List.set_append_right _ _ (by rw [List.length_map, List.length_take]; omega)]
  congr 1
  rw [List.length_map, List.length_take, show i - min i L.length = 0 by omega]
  rfl
theorem mgT_all (L : List Int) (a b : Int) : mgT L a b L.length = mgL L a b := by unfold mgT; rw [List.take_length, List.drop_length, List.append_nil]
theorem set_same {L : List Int} {i : Nat} : L.set i (geti L (i : Nat)) = L := by
  apply List.ext_getElem?
  intro k
  rw [List.getElem?_set]
  split
  · rename_i h; subst h
    split
    · rename_i h; simp [geti, List.getD_eq_getElem?_getD, List.getElem?_eq_getElem h]
    · rename_i h; rw [List.getElem?_eq_none (by omega)]
  · rfl
def idT (n i : Nat) : List Int := (List.range n).map fun (j : Nat) => if j < i then (j : Int) else 0
theorem idT_len (n i : Nat) : (idT n i).length = n := by simp [idT]
theorem idT_step (n i : Nat) : (idT n i).set i (i : Nat) = idT n (i + 1) := by
  apply List.ext_getElem?
  intro k
  rw [List.getElem?_set, idT_len]
  simp only [idT, List.getElem?_map]
  by_cases hk : k < n
  · rw [List.getElem?_range hk]
    by_cases e : i = k
    · subst e
      simp [hk]
    · simp only [e, if_false, Option.map_some]
      congr 1
      by_cases h1 : k < i
      · rw [if_pos h1, if_pos (by omega)]
      · rw [if_neg h1, if_neg (by omega)]
  · rw [List.getElem?_eq_none (by simpa using hk)]
    split
    · rw [if_neg (by omega)]; rfl
    · rfl
theorem idT_0 (n : Nat) : idT n 0 = List.replicate n 0 := by
  apply List.ext_getElem (by simp [idT])
  intro i h1 h2
  simp [idT]
theorem idT_n (n : Nat) : idT n n = idL n := by
  unfold idT idL
  apply List.map_congr_left
  intro x hx
  rw [if_pos (List.mem_range.1 hx)]

set_option maxHeartbeats 16000000 in
theorem labels_c (n : Nat) (E : List (List Int)) (hn : n ≤ 40) (hl : E.length ≤ 40) (hE : ∀ e ∈ E, EIn n e) : AFn Try.prog 28 [.i n, .intss E] (IsInts 2 (labF n E)) := by
  have hri : ∀ k, k ≤ E.length → RI n (lbR (idL n) (E.take k)) := fun k hk => (rc_run (RI.id n) (M := idL n) (fun _ _ _ _ _ _ => Iff.rfl) (idL_len n) (E := E.take k) fun e he => hE e (List.mem_of_mem_take he)).1
  (refine AFn.start Try.func28 Try.ntmps28 rfl (by kernel_rfl) fun hk => ?_; simp only [Env.start, enumF, List.length_cons, List.length_nil, Nat.reduceAdd, Nat.reduceSub, List.cons_append, List.nil_append])
  repeat' (first | (apply AOps.nil; try simp only [List.nil_append, List.cons_append, List.set_cons_zero, List.set_cons_succ, List.length_cons, List.length_nil, Nat.reduceAdd, AV.sh, AV.sh1, AV.sh0, AO.sh, List.map_cons, List.map_nil, Nat.zero_add, Nat.add_zero, setAll]) | (apply w_move; exact rfl; exact rfl) | (apply w_assign; exact rfl; exact rfl) | apply AWp.seq | apply AWp.region | apply AWp.block | (apply w_len; exact rfl; exact rfl; first | exact .ints _ | exact .intss _ | exact .sli rfl | exact .sls rfl | exact .slr rfl | exact .orow rfl | exact .nil) | omega | (apply w_mki; exact rfl; exact rfl; rotate_left 3; exact rfl; rotate_left 1))
  rw [Int.toNat_natCast, ← idT_0, idT_len]
  refine AWp.loop (ι := Nat) (fun i => ⟨104, [(1, .intss E), (5, .own 0), (17, .i n), (18, .i i)]⟩) (fun i => [.sli 2 (idT n i)]) (fun i => i ≤ n) (fun i => n - i) 0 (by omega) ⟨lee rfl (by (repeat (first | exact le_nil | refine le_eq rfl rfl ?_))), by (repeat (first | exact lo_nil | refine lo_eq rfl ?_)), rfl, rfl⟩ ?_
  intro i i0
  have il := idT_len n i
  have is := idT_step n i
  by_cases hi : i < n
  · generalize idT n i = L at *
    repeat' (first | (apply AOps.nil; try simp only [List.nil_append, List.cons_append, List.set_cons_zero, List.set_cons_succ, List.length_cons, List.length_nil, Nat.reduceAdd, AV.sh, AV.sh1, AV.sh0, AO.sh, List.map_cons, List.map_nil, Nat.zero_add, Nat.add_zero, setAll]) | (apply w_move; exact rfl; exact rfl) | (apply w_assign; exact rfl; exact rfl) | apply AWp.seq | apply AWp.region | ((apply AWp.condP; exact rfl) <;> intro h) | apply AWp.block | apply AWp.exit | apply AWp.skip | (apply w_len; exact rfl; exact rfl; first | exact .ints _ | exact .intss _ | exact .sli rfl | exact .sls rfl | exact .slr rfl | exact .orow rfl | exact .nil) | omega | ((first | apply w_lss | apply w_add | apply w_idx); iterate 3 exact rfl) | (apply w_idxo; exact rfl; exact rfl; (exact .sli rfl); exact rfl) | (apply w_sti; exact rfl; exact rfl; rotate_left 1; exact rfl; rotate_left 2) | (apply inI_of <;> omega))
    exact ⟨i + 1, by omega, by omega, by rw [← is]; exact ⟨lee rfl (by (repeat (first | exact le_nil | refine le_eq rfl rfl ?_))), by (repeat (first | exact lo_nil | refine lo_eq rfl ?_)), rfl, rfl⟩⟩
  have ei : i = n := by omega
  subst ei
  rw [idT_n] at il ⊢
  repeat' (first | (apply AOps.nil; try simp only [List.nil_append, List.cons_append, List.set_cons_zero, List.set_cons_succ, List.length_cons, List.length_nil, Nat.reduceAdd, AV.sh, AV.sh1, AV.sh0, AO.sh, List.map_cons, List.map_nil, Nat.zero_add, Nat.add_zero, setAll]) | (apply w_move; exact rfl; exact rfl) | (apply w_assign; exact rfl; exact rfl) | apply AWp.seq | apply AWp.region | ((apply AWp.condP; exact rfl) <;> intro h) | apply AWp.block | apply AWp.exit | apply AWp.skip | (apply w_len; exact rfl; exact rfl; first | exact .ints _ | exact .intss _ | exact .sli rfl | exact .sls rfl | exact .slr rfl | exact .orow rfl | exact .nil) | omega | ((apply w_lss); iterate 3 exact rfl))
  refine AWp.loop (ι := Nat) (fun k => ⟨104, [(5, .own 0), (26, .intss E), (27, .i E.length), (28, .i k)]⟩) (fun k => [.sli 2 (lbR (idL i) (E.take k))]) (fun k => k ≤ E.length) (fun k => E.length - k) 0 (by omega) ⟨lee rfl (by (repeat (first | exact le_nil | refine le_eq rfl rfl ?_))), by (repeat (first | exact lo_nil | refine lo_eq rfl ?_)), rfl, rfl⟩ ?_
  intro k k0
  have hr := hri k k0
  have rl := hr.len
  by_cases hk : k < E.length
  · obtain ⟨a1, a2, a3, a4⟩ := hE (gets E (k : Nat)) (gets_mem (by omega) (by omega))
    have et : lbR (idL i) (E.take (k + 1)) = mmL (lbR (idL i) (E.take k)) (gets E (k : Nat)) := by
      rw [List.take_succ_eq_append_getElem hk, lbR_app]; simp [gets, hk, lbR]
    have hx1 : ∀ x : Int, 0 ≤ x → x < i → 0 ≤ geti (lbR (idL i) (E.take k)) x := hr.lo
    rw [show mmL (lbR (idL i) (E.take k)) (gets E (k : Nat)) = mgL (lbR (idL i) (E.take k)) (min (geti (lbR (idL i) (E.take k)) (geti (gets E (k : Nat)) 0)) (geti (lbR (idL i) (E.take k)) (geti (gets E (k : Nat)) 1))) (max (geti (lbR (idL i) (E.take k)) (geti (gets E (k : Nat)) 0)) (geti (lbR (idL i) (E.take k)) (geti (gets E (k : Nat)) 1))) from rfl] at et
    generalize lbR (idL i) (E.take k) = L at *
    repeat' (first | (apply AOps.nil; try simp only [List.nil_append, List.cons_append, List.set_cons_zero, List.set_cons_succ, List.length_cons, List.length_nil, Nat.reduceAdd, AV.sh, AV.sh1, AV.sh0, AO.sh, List.map_cons, List.map_nil, Nat.zero_add, Nat.add_zero, setAll]) | (apply w_move; exact rfl; exact rfl) | (apply w_assign; exact rfl; exact rfl) | apply AWp.seq | apply AWp.region | ((apply AWp.condP; exact rfl) <;> intro h) | apply AWp.block | apply AWp.exit | apply AWp.skip | (apply w_len; exact rfl; exact rfl; first | exact .ints _ | exact .intss _ | exact .sli rfl | exact .sls rfl | exact .slr rfl | exact .orow rfl | exact .nil) | omega | ((first | apply w_lss | apply w_idx | apply w_ld); iterate 3 exact rfl) | ((first | apply w_idxs | apply w_lds); iterate 3 exact rfl))
    generalize gets E (k : Nat) = e at *
    obtain ⟨a, ea⟩ : ∃ a, a = min (geti L (geti e 0)) (geti L (geti e 1)) := ⟨_, rfl⟩
    obtain ⟨b, eb⟩ : ∃ b, b = max (geti L (geti e 0)) (geti L (geti e 1)) := ⟨_, rfl⟩
    have y1 := hr.lo _ a2 (by omega)
    have y2 := hr.hi _ a2 (by omega)
    have y3 := hr.lo (geti e 1) (by omega) a4
    have y4 := hr.hi (geti e 1) (by omega) a4
    have am : 0 ≤ a ∧ a < i := by omega
    refine AWp.regionG [] (by kernel_rfl) (envC := ⟨104, [(5, .own 0), (9, .i a), (10, .i b), (26, .intss E), (27, .i E.length), (28, .i k)]⟩) (osC := [.sli 2 L]) rfl rfl ?_ ?_
    · rw [ea, eb]
      repeat' (first | (apply AOps.nil; try simp only [List.nil_append, List.cons_append, List.set_cons_zero, List.set_cons_succ, List.length_cons, List.length_nil, Nat.reduceAdd, AV.sh, AV.sh1, AV.sh0, AO.sh, List.map_cons, List.map_nil, Nat.zero_add, Nat.add_zero, setAll]) | (apply w_move; exact rfl; exact rfl) | (apply w_assign; exact rfl; exact rfl) | (apply AAnyG.takeW; exact rfl; exact rfl; kernel_rfl; kernel_rfl) | (apply AAnyG.takeL; exact rfl; exact rfl; kernel_rfl) | (apply AAnyG.done; exact rfl) | omega | ((first | apply w_idx | apply w_ld | apply w_min | apply w_max); iterate 3 exact rfl) | (apply w_idxo; exact rfl; exact rfl; (exact .sli rfl); exact rfl) | (apply w_ldo; iterate 4 exact rfl))
      all_goals (apply Or.inl; refine ⟨lee rfl ?_, ?_, rfl, rfl⟩; (focus ((repeat (first | exact le_nil | refine le_eq rfl rfl ?_)); done)); (focus ((repeat (first | exact lo_nil | refine lo_eq rfl ?_)); done)))
    rw [← ea, ← eb] at et
    clear ea eb
    repeat' (first | (apply AOps.nil; try simp only [List.nil_append, List.cons_append, List.set_cons_zero, List.set_cons_succ, List.length_cons, List.length_nil, Nat.reduceAdd, AV.sh, AV.sh1, AV.sh0, AO.sh, List.map_cons, List.map_nil, Nat.zero_add, Nat.add_zero, setAll]) | (apply w_move; exact rfl; exact rfl) | apply AWp.seq | apply AWp.region | apply AWp.block | (apply w_len; exact rfl; exact rfl; first | exact .ints _ | exact .intss _ | exact .sli rfl | exact .sls rfl | exact .slr rfl | exact .orow rfl | exact .nil))
    rw [rl]
    refine AWp.loop (ι := Nat) (fun j => ⟨104, [(5, .own 0), (9, .i a), (10, .i b), (26, .intss E), (27, .i E.length), (28, .i k), (59, .i i), (60, .i j)]⟩) (fun j => [.sli 2 (mgT L a b j)]) (fun j => j ≤ i) (fun j => i - j) 0 (by omega) ⟨lee rfl (by (repeat (first | exact le_nil | refine le_eq rfl rfl ?_))), by (repeat (first | exact lo_nil | refine lo_eq rfl ?_)), rfl, rfl⟩ ?_
    intro j j0
    have ml := mgT_len L a b j
    by_cases hj : j < i
    · have m1 := mgT_at (L := L) (a := a) (b := b) (i := j) (by omega)
      have m2 := mgT_eq (L := L) (a := a) (b := b) (i := j) (by omega)
      rw [← m1] at m2
      generalize mgT L a b j = M at *
      have ej : geti M ((((j : Nat) : Int)).toNat : Nat) = geti M (j : Nat) := by rw [Int.toNat_natCast]
      by_cases hc : geti M (j : Nat) = b
      · rw [if_pos hc] at m2
        repeat' (first | (apply AOps.nil; try simp only [List.nil_append, List.cons_append, List.set_cons_zero, List.set_cons_succ, List.length_cons, List.length_nil, Nat.reduceAdd, AV.sh, AV.sh1, AV.sh0, AO.sh, List.map_cons, List.map_nil, Nat.zero_add, Nat.add_zero, setAll]) | (apply w_move; exact rfl; exact rfl) | (apply w_assign; exact rfl; exact rfl) | apply AWp.seq | apply AWp.region | ((apply AWp.condP; exact rfl) <;> intro h) | apply AWp.block | apply AWp.exit | apply AWp.skip | omega | ((first | apply w_lss | apply w_eql | apply w_add | apply w_idx | apply w_ld); iterate 3 exact rfl) | (apply w_idxo; exact rfl; exact rfl; (exact .sli rfl); exact rfl) | (apply w_ldo; iterate 4 exact rfl) | (apply w_sti; exact rfl; exact rfl; rotate_left 1; exact rfl; rotate_left 2) | (apply inI_of <;> omega))
        exact ⟨j + 1, by omega, by omega, by rw [m2]; exact ⟨lee rfl (by (repeat (first | exact le_nil | refine le_eq rfl rfl ?_))), by (repeat (first | exact lo_nil | refine lo_eq rfl ?_)), rfl, rfl⟩⟩
      · rw [if_neg hc, set_same] at m2
        repeat' (first | (apply AOps.nil; try simp only [List.nil_append, List.cons_append, List.set_cons_zero, List.set_cons_succ, List.length_cons, List.length_nil, Nat.reduceAdd, AV.sh, AV.sh1, AV.sh0, AO.sh, List.map_cons, List.map_nil, Nat.zero_add, Nat.add_zero, setAll]) | (apply w_move; exact rfl; exact rfl) | (apply w_assign; exact rfl; exact rfl) | apply AWp.seq | apply AWp.region | ((apply AWp.condP; exact rfl) <;> intro h) | apply AWp.block | apply AWp.exit | apply AWp.skip | omega | ((first | apply w_lss | apply w_eql | apply w_add | apply w_idx | apply w_ld); iterate 3 exact rfl) | (apply w_idxo; exact rfl; exact rfl; (exact .sli rfl); exact rfl) | (apply w_ldo; iterate 4 exact rfl) | (apply inI_of <;> omega))
        exact ⟨j + 1, by omega, by omega, by rw [m2]; exact ⟨lee rfl (by (repeat (first | exact le_nil | refine le_eq rfl rfl ?_))), by (repeat (first | exact lo_nil | refine lo_eq rfl ?_)), rfl, rfl⟩⟩
    · have ej : j = L.length := by omega
      rw [ej, mgT_all, ← et]
      repeat' (first | (apply AOps.nil; try simp only [List.nil_append, List.cons_append, List.set_cons_zero, List.set_cons_succ, List.length_cons, List.length_nil, Nat.reduceAdd, AV.sh, AV.sh1, AV.sh0, AO.sh, List.map_cons, List.map_nil, Nat.zero_add, Nat.add_zero, setAll]) | (apply w_move; exact rfl; exact rfl) | (apply w_assign; exact rfl; exact rfl) | apply AWp.seq | apply AWp.region | ((apply AWp.condP; exact rfl) <;> intro h) | apply AWp.block | apply AWp.exit | apply AWp.skip | omega | ((first | apply w_lss | apply w_add); iterate 3 exact rfl) | (apply inI_of <;> omega))
      exact ⟨k + 1, by omega, by omega, ⟨lee rfl (by (repeat (first | exact le_nil | refine le_eq rfl rfl ?_))), by (repeat (first | exact lo_nil | refine lo_eq rfl ?_)), rfl, rfl⟩⟩
  · have ek : k = E.length := by omega
    subst ek
    rw [List.take_length]
    rw [List.take_length] at hr rl
    have hnm := nm_run hr
    have hlab : labF i E = (nmF (lbR (idL i) E) i).1 := rfl
    have hrc : ∀ m, rcL (lbR (idL i) E) m ≤ m := fun m => by
      unfold rcL
      exact Nat.le_trans (List.length_filter_le _ _) (by simp)
    repeat' (first | (apply AOps.nil; try simp only [List.nil_append, List.cons_append, List.set_cons_zero, List.set_cons_succ, List.length_cons, List.length_nil, Nat.reduceAdd, AV.sh, AV.sh1, AV.sh0, AO.sh, List.map_cons, List.map_nil, Nat.zero_add, Nat.add_zero, setAll]) | (apply w_move; exact rfl; exact rfl) | (apply w_assign; exact rfl; exact rfl) | apply AWp.seq | apply AWp.region | ((apply AWp.condP; exact rfl) <;> intro h) | apply AWp.block | apply AWp.exit | apply AWp.skip | (apply w_len; exact rfl; exact rfl; first | exact .ints _ | exact .intss _ | exact .sli rfl | exact .sls rfl | exact .slr rfl | exact .orow rfl | exact .nil) | omega | ((apply w_lss); iterate 3 exact rfl))
    rw [rl]
    generalize lbR (idL i) E = L at *
    refine AWp.loop (ι := Nat) (fun j => ⟨104, [(5, .own 0), (12, .i (nmF L j).2), (76, .i i), (77, .i j)]⟩) (fun j => [.sli 2 (nmF L j).1]) (fun j => j ≤ i) (fun j => i - j) 0 (by omega) ⟨lee rfl (by (repeat (first | exact le_nil | refine le_eq rfl rfl ?_))), by (repeat (first | exact lo_nil | refine lo_eq rfl ?_)), rfl, rfl⟩ ?_
    intro j j0
    have hm := hnm j j0
    have m1 := hm.len
    have m2 := hm.num
    have m3 := hrc j
    by_cases hj : j < i
    · have m4 := hm.old (j : Nat) (Int.le_refl _)
      have m5 := hr.lo (j : Nat) (by omega) (by omega)
      have m6 := hr.hi (j : Nat) (by omega) (by omega)
      have es : nmF L (j + 1) = if geti (nmF L j).1 (j : Nat) = (j : Nat) then ((nmF L j).1.set j (nmF L j).2, (nmF L j).2 + 1) else ((nmF L j).1.set j (geti (nmF L j).1 (geti (nmF L j).1 (j : Nat))), (nmF L j).2) := rfl
      rw [← m4] at m5 m6
      generalize nmF L j = s at *
      obtain ⟨M, q⟩ := s
      simp only at m1 m2 m5 m6 es
      have ej : geti M ((((j : Nat) : Int)).toNat : Nat) = geti M (j : Nat) := by rw [Int.toNat_natCast]
      by_cases hc : geti M (j : Nat) = (j : Nat)
      · rw [if_pos hc] at es
        repeat' (first | (apply AOps.nil; try simp only [List.nil_append, List.cons_append, List.set_cons_zero, List.set_cons_succ, List.length_cons, List.length_nil, Nat.reduceAdd, AV.sh, AV.sh1, AV.sh0, AO.sh, List.map_cons, List.map_nil, Nat.zero_add, Nat.add_zero, setAll]) | (apply w_move; exact rfl; exact rfl) | (apply w_assign; exact rfl; exact rfl) | apply AWp.seq | apply AWp.region | ((apply AWp.condP; exact rfl) <;> intro h) | apply AWp.block | apply AWp.ret | apply AWp.exit | apply AWp.skip | omega | ((first | apply w_lss | apply w_eql | apply w_add | apply w_idx | apply w_ld); iterate 3 exact rfl) | (apply w_idxo; exact rfl; exact rfl; (exact .sli rfl); exact rfl) | (apply w_ldo; iterate 4 exact rfl) | (apply w_sti; exact rfl; exact rfl; rotate_left 1; exact rfl; rotate_left 2) | (apply inI_of <;> omega))
        exact ⟨j + 1, by omega, by omega, by rw [es]; exact ⟨lee rfl (by (repeat (first | exact le_nil | refine le_eq rfl rfl ?_))), by (repeat (first | exact lo_nil | refine lo_eq rfl ?_)), rfl, rfl⟩⟩
      · have n1 : 0 ≤ geti M (geti M (j : Nat)) := hm.lo (geti M (j : Nat)) m5 (by omega)
        have n2 : geti M (geti M (j : Nat)) < q := hm.hi (geti M (j : Nat)) m5 (by omega)
        have e9 : geti M ((geti M (((j : Nat) : Int).toNat : Nat)).toNat : Nat) = geti M (geti M (j : Nat)) := by rw [Int.toNat_natCast, Int.toNat_of_nonneg m5]
        rw [← e9] at n1 n2
        rw [if_neg hc, ← e9] at es
        repeat' (first | (apply AOps.nil; try simp only [List.nil_append, List.cons_append, List.set_cons_zero, List.set_cons_succ, List.length_cons, List.length_nil, Nat.reduceAdd, AV.sh, AV.sh1, AV.sh0, AO.sh, List.map_cons, List.map_nil, Nat.zero_add, Nat.add_zero, setAll]) | (apply w_move; exact rfl; exact rfl) | (apply w_assign; exact rfl; exact rfl) | apply AWp.seq | apply AWp.region | ((apply AWp.condP; exact rfl) <;> intro h) | apply AWp.block | apply AWp.ret | apply AWp.exit | apply AWp.skip | omega | ((first | apply w_lss | apply w_eql | apply w_add | apply w_idx | apply w_ld); iterate 3 exact rfl) | (apply w_idxo; exact rfl; exact rfl; (exact .sli rfl); exact rfl) | (apply w_ldo; iterate 4 exact rfl) | (apply w_sti; exact rfl; exact rfl; rotate_left 1; exact rfl; rotate_left 2) | (apply inI_of <;> omega))
        exact ⟨j + 1, by omega, by omega, by rw [es]; exact ⟨lee rfl (by (repeat (first | exact le_nil | refine le_eq rfl rfl ?_))), by (repeat (first | exact lo_nil | refine lo_eq rfl ?_)), rfl, rfl⟩⟩
    · have ej : j = i := by omega
      subst ej
      rw [← hlab] at m1 ⊢
      generalize labF j E = M at *
      repeat' (first | (apply AOps.nil; try simp only [List.nil_append, List.cons_append, List.set_cons_zero, List.set_cons_succ, List.length_cons, List.length_nil, Nat.reduceAdd, AV.sh, AV.sh1, AV.sh0, AO.sh, List.map_cons, List.map_nil, Nat.zero_add, Nat.add_zero, setAll]) | (apply w_move; exact rfl; exact rfl) | (apply w_assign; exact rfl; exact rfl) | apply AWp.seq | apply AWp.region | ((apply AWp.condP; exact rfl) <;> intro h) | apply AWp.block | apply AWp.ret | apply AWp.exit | apply AWp.skip | omega | ((apply w_lss); iterate 3 exact rfl))
      exact ⟨_, _, _, .v1 Try.results28 rfl, .sli rfl, rfl, rfl⟩
end Go.Proofs.Ythjkpmjdkcainaa
/-
  Whether a graph is one, walked: the program. No condition on the graph.
-/
namespace Go.Proofs.Ythjkpmjdkcainaa
open Go Go.RowKit
attribute [local irreducible] AWp AOps ResIs Ret1 QOp LOp COp AFnV AFn Imms LeE LeO
set_option maxHeartbeats 1000000
set_option linter.unusedSimpArgs false
set_option linter.unusedVariables false

/-- A graph of the program. -/
structure GOk (W : List Int) (E : List (List Int)) : Prop where
  n : 1 ≤ W.length ∧ W.length ≤ 40
  w : withinL W (-1000) 1000 = true
  row : ∀ e ∈ E, EIn W.length e
  srt : E.Pairwise lx
  eff : effL (idL W.length) E
theorem within_geti {W : List Int} (h : withinL W (-1000) 1000 = true) (v : Int) : -1000 ≤ geti W v ∧ geti W v ≤ 1000 := by
  unfold withinL at h
  simp only [geti, List.getD_eq_getElem?_getD]
  cases hx : W[v.toNat]? with
  | none => simp
  | some x =>
    have := List.all_eq_true.1 h x (List.mem_of_getElem? hx)
    simpa using this
theorem GOk.len {W : List Int} {E : List (List Int)} (h : GOk W E) : E.length < W.length := by
  obtain ⟨_, m, _, _, m0, _, hm⟩ := lab_max (n := W.length) (E := E) (by have := h.n; omega) h.row
  have := hm.2 h.eff
  omega
theorem GOk.gr {W : List Int} {E : List (List Int)} (h : GOk W E) : GrF W E :=
  ⟨h.n, within_geti h.w, foE_of h.row h.srt h.eff, by have := h.len; have := h.n; omega⟩
noncomputable def gok (W : List Int) (E : List (List Int)) : Bool := @decide (GOk W E) (Classical.propDecidable _)
theorem gok_iff {W : List Int} {E : List (List Int)} : gok W E = true ↔ GOk W E := by
  unfold gok; exact @decide_eq_true_iff _ (Classical.propDecidable _)
theorem gok_f {W : List Int} {E : List (List Int)} (h : ¬ GOk W E) : gok W E = false := by
  cases e : gok W E with
  | false => rfl
  | true => exact absurd (gok_iff.1 e) h
theorem gets_eq {E : List (List Int)} {k : Nat} (h : k < E.length) : E[k] = gets E (k : Nat) := by simp [gets, h]
theorem pw_snoc {E : List (List Int)} {k : Nat} (hk : k < E.length) : (E.take (k + 1)).Pairwise lx ↔ (E.take k).Pairwise lx ∧ (k = 0 ∨ lx (gets E ((k - 1 : Nat))) (gets E (k : Nat))) := by
  rw [List.take_succ_eq_append_getElem hk, List.pairwise_append, gets_eq hk]
  constructor
  · rintro ⟨h1, _, h3⟩
    refine ⟨h1, ?_⟩
    by_cases hz : k = 0
    · exact .inl hz
    · right
      refine h3 _ ?_ _ (by simp)
      rw [← gets_eq (by omega)]
      exact List.mem_take_iff_getElem.2 ⟨k - 1, by omega, rfl⟩
  · rintro ⟨h1, h2⟩
    refine ⟨h1, by simp, fun a ha b hb => ?_⟩
    rw [List.mem_singleton.1 hb]
    obtain ⟨j, hj, rfl⟩ := List.mem_take_iff_getElem.1 ha
    rcases h2 with h2 | h2
    · omega
    · by_cases e : j = k - 1
      · subst e; rw [gets_eq (by omega)]; exact h2
      · refine lx_tr ?_ h2
        have := List.pairwise_iff_getElem.1 h1 j (k - 1) (by rw [List.length_take]; omega) (by rw [List.length_take]; omega) (by omega)
        rw [List.getElem_take, List.getElem_take, gets_eq (k := k - 1) (by omega)] at this
        exact this
theorem pw_take {E : List (List Int)} (h : E.Pairwise lx) (k : Nat) : (E.take k).Pairwise lx := h.sublist (List.take_sublist _ _)
theorem maxL_eq : ∀ {xs : List Int} {m0 m : Int}, (∀ x ∈ xs, x ≤ m) → m0 ≤ m → (m ∈ xs ∨ m0 = m) → maxL xs m0 = m
  | [], m0, m, _, _, h => by rcases h with h | h; cases h; exact h
  | x :: xs, m0, m, h1, h2, h3 => by
    rw [maxL]
    refine maxL_eq (fun y hy => h1 y (by simp [hy])) (by have := h1 x (by simp); omega) ?_
    have := h1 x (by simp)
    rcases h3 with h3 | h3
    · rcases List.mem_cons.1 h3 with h3 | h3
      · right; omega
      · exact .inl h3
    · right; omega

set_option maxHeartbeats 16000000 in
theorem isGraph_c (W : List Int) (E : List (List Int)) : AFnV Try.prog 21 [.agg [.ints W, .intss E]] (.bool (gok W E)) := by
  (refine AFnV.start Try.func21 Try.ntmps21 rfl (by kernel_rfl) fun hk => ?_; simp only [Env.start, enumF, List.length_cons, List.length_nil, Nat.reduceAdd, Nat.reduceSub, List.cons_append, List.nil_append])
  have hwi := within_c W (-1000) 1000
  by_cases c0 : 1 ≤ W.length ∧ W.length ≤ 40 ∧ withinL W (-1000) 1000 = true ∧ E.length < W.length
  · obtain ⟨c1, c2, c3, c4⟩ := c0
    rw [c3] at hwi
    repeat' (first | (apply AOps.nil; try simp only [List.nil_append, List.cons_append, List.set_cons_zero, List.set_cons_succ, List.length_cons, List.length_nil, Nat.reduceAdd, AV.sh, AV.sh1, AV.sh0, AO.sh, List.map_cons, List.map_nil, Nat.zero_add, Nat.add_zero, setAll]) | ((apply AOps.splitP; exact rfl; exact rfl) <;> intro h) | (apply w_move; exact rfl; exact rfl) | (apply w_assign; exact rfl; exact rfl) | apply AWp.seq | apply AWp.region | ((apply AWp.condP; exact rfl) <;> intro h) | (apply AWp.condT; exact rfl) | apply AWp.block | apply AWp.ret | apply AWp.skip | (apply w_skip; exact rfl) | (apply w_pickT; exact rfl; exact rfl; exact rfl) | (apply w_pickF; exact rfl; exact rfl; exact rfl) | (apply w_len; exact rfl; exact rfl; first | exact .ints _ | exact .intss _ | exact .sli rfl | exact .sls rfl | exact .slr rfl | exact .orow rfl | exact .nil) | (apply w_call (hwi); exact rfl; exact rfl; focus ((repeat (first | exact im_nil | refine im_cons rfl (.val _) ?_ | refine im_cons rfl (.ints _) ?_)); done)) | omega | ((first | apply w_lss | apply w_gtr | apply w_geq | apply w_ld | apply w_fa); iterate 3 exact rfl) | ((first | apply w_not | apply w_boxa); iterate 2 exact rfl) | (apply w_ldb; iterate 5 exact rfl))
    refine AWp.loop (ι := Nat) (fun k => ⟨89, [(1, .optr 0 0), (3, .i W.length), (30, .intss E), (31, .i E.length), (32, .i k)]⟩) (fun _ => [.bx 27 [.ints W, .intss E]]) (fun k => k ≤ E.length ∧ (∀ e ∈ E.take k, EIn W.length e) ∧ (E.take k).Pairwise lx) (fun k => E.length - k) 0 ⟨by omega, by simp, by simp⟩ ⟨lee rfl (by (repeat (first | exact le_nil | refine le_eq rfl rfl ?_))), by (repeat (first | exact lo_nil | refine lo_eq rfl ?_)), rfl, rfl⟩ ?_
    rintro k ⟨k0, k1, k2⟩
    by_cases hk : k < E.length
    · have hsn := pw_snoc hk
      have hrow : ∀ f ∈ E.take (k + 1), EIn W.length f ∨ f = gets E (k : Nat) := fun f hf => by
        rw [List.take_succ_eq_append_getElem hk, gets_eq hk] at hf
        rcases List.mem_append.1 hf with hf | hf
        · exact .inl (k1 f hf)
        · exact .inr (List.mem_singleton.1 hf)
      have hmem : gets E (k : Nat) ∈ E := gets_mem (by omega) (by omega)
      by_cases he : EIn W.length (gets E (k : Nat))
      · have he' := he
        obtain ⟨e1, e2, e3, e4⟩ := he'
        by_cases hz : k = 0
        · subst hz
          repeat' (first | (apply AOps.nil; try simp only [List.nil_append, List.cons_append, List.set_cons_zero, List.set_cons_succ, List.length_cons, List.length_nil, Nat.reduceAdd, AV.sh, AV.sh1, AV.sh0, AO.sh, List.map_cons, List.map_nil, Nat.zero_add, Nat.add_zero, setAll]) | (apply w_move; exact rfl; exact rfl) | (apply w_assign; exact rfl; exact rfl) | apply AWp.seq | apply AWp.region | ((apply AWp.condP; exact rfl) <;> intro h) | apply AWp.block | apply AWp.exit | apply AWp.skip | omega | ((first | apply w_lss | apply w_idx | apply w_ld); iterate 3 exact rfl) | ((first | apply w_idxs | apply w_lds); iterate 3 exact rfl))
          refine AWp.regionQ (by kernel_rfl) (by kernel_rfl) ?_
          repeat' (first | (apply AOps.nil; try simp only [List.nil_append, List.cons_append, List.set_cons_zero, List.set_cons_succ, List.length_cons, List.length_nil, Nat.reduceAdd, AV.sh, AV.sh1, AV.sh0, AO.sh, List.map_cons, List.map_nil, Nat.zero_add, Nat.add_zero, setAll]) | ((apply AOps.splitP; exact rfl; exact rfl) <;> intro h) | (apply w_move; exact rfl; exact rfl) | (apply w_assign; exact rfl; exact rfl) | apply AWp.seq | apply AWp.region | ((apply AWp.condP; exact rfl) <;> intro h) | (apply AWp.condT; exact rfl) | (apply AWp.condF; exact rfl) | apply AWp.ret | apply AWp.skip | (apply w_skip; exact rfl) | (apply w_pickT; exact rfl; exact rfl; exact rfl) | (apply w_pickF; exact rfl; exact rfl; exact rfl) | (apply w_len; exact rfl; exact rfl; first | exact .ints _ | exact .intss _ | exact .sli rfl | exact .sls rfl | exact .slr rfl | exact .orow rfl | exact .nil) | omega | ((first | apply w_lss | apply w_gtr | apply w_geq | apply w_neq | apply w_add | apply w_idx | apply w_ld); iterate 3 exact rfl) | (apply inI_of <;> omega))
          all_goals try (exfalso; omega)
          exact ⟨1, ⟨by omega, fun f hf => (hrow f hf).elim id fun h => h ▸ he, hsn.2 ⟨k2, .inl rfl⟩⟩, by omega, ⟨lee rfl (by (repeat (first | exact le_nil | refine le_eq rfl rfl ?_))), by (repeat (first | exact lo_nil | refine lo_eq rfl ?_)), rfl, rfl⟩⟩
        · have hp1 : gets E (((k : Nat) : Int) - 1) = gets E ((k - 1 : Nat) : Int) := by congr 1; omega
          have hm1 : gets E ((k - 1 : Nat) : Int) ∈ E.take k := by
            rw [← gets_eq (by omega)]
            exact List.mem_take_iff_getElem.2 ⟨k - 1, by omega, rfl⟩
          have hcm := compare_c (gets E ((k - 1 : Nat) : Int)) (gets E (k : Nat)) (k1 _ hm1).1 e1
          rw [← hp1] at hcm
          by_cases hlx : lx (gets E ((k - 1 : Nat) : Int)) (gets E (k : Nat))
          · have hcv : cmpR (gets E (((k : Nat) : Int) - 1)) (gets E (k : Nat)) = -1 := by rw [hp1]; unfold cmpR; rw [if_pos hlx]
            rw [hcv] at hcm
            repeat' (first | (apply AOps.nil; try simp only [List.nil_append, List.cons_append, List.set_cons_zero, List.set_cons_succ, List.length_cons, List.length_nil, Nat.reduceAdd, AV.sh, AV.sh1, AV.sh0, AO.sh, List.map_cons, List.map_nil, Nat.zero_add, Nat.add_zero, setAll]) | (apply w_move; exact rfl; exact rfl) | (apply w_assign; exact rfl; exact rfl) | apply AWp.seq | apply AWp.region | ((apply AWp.condP; exact rfl) <;> intro h) | apply AWp.block | apply AWp.exit | apply AWp.skip | omega | ((first | apply w_lss | apply w_idx | apply w_ld); iterate 3 exact rfl) | ((first | apply w_idxs | apply w_lds); iterate 3 exact rfl))
            refine AWp.regionQ (by kernel_rfl) (by kernel_rfl) ?_
            repeat' (first | (apply AOps.nil; try simp only [List.nil_append, List.cons_append, List.set_cons_zero, List.set_cons_succ, List.length_cons, List.length_nil, Nat.reduceAdd, AV.sh, AV.sh1, AV.sh0, AO.sh, List.map_cons, List.map_nil, Nat.zero_add, Nat.add_zero, setAll]) | ((apply AOps.splitP; exact rfl; exact rfl) <;> intro h) | (apply w_move; exact rfl; exact rfl) | (apply w_assign; exact rfl; exact rfl) | apply AWp.seq | apply AWp.region | ((apply AWp.condP; exact rfl) <;> intro h) | (apply AWp.condT; exact rfl) | (apply AWp.condF; exact rfl) | apply AWp.ret | apply AWp.skip | (apply w_skip; exact rfl) | (apply w_pickT; exact rfl; exact rfl; exact rfl) | (apply w_pickF; exact rfl; exact rfl; exact rfl) | (apply w_len; exact rfl; exact rfl; first | exact .ints _ | exact .intss _ | exact .sli rfl | exact .sls rfl | exact .slr rfl | exact .orow rfl | exact .nil) | (apply w_call (hcm); exact rfl; exact rfl; focus ((repeat (first | exact im_nil | refine im_cons rfl (.ints _) ?_)); done)) | omega | ((first | apply w_lss | apply w_gtr | apply w_geq | apply w_neq | apply w_add | apply w_sub | apply w_idx | apply w_ld | apply w_fa); iterate 3 exact rfl) | ((first | apply w_idxs | apply w_lds); iterate 3 exact rfl) | (apply w_ldb; iterate 5 exact rfl) | (apply inI_of <;> omega))
            all_goals try (exfalso; omega)
            exact ⟨k + 1, ⟨by omega, fun f hf => (hrow f hf).elim id fun h => h ▸ he, hsn.2 ⟨k2, .inr hlx⟩⟩, by omega, ⟨lee rfl (by (repeat (first | exact le_nil | refine le_eq rfl rfl ?_))), by (repeat (first | exact lo_nil | refine lo_eq rfl ?_)), rfl, rfl⟩⟩
          · have hno : gok W E = false := gok_f fun h => by
              have := (hsn.1 (pw_take h.srt (k + 1))).2
              rcases this with h5 | h5
              · exact hz h5
              · exact hlx h5
            have hcv : 0 ≤ cmpR (gets E (((k : Nat) : Int) - 1)) (gets E (k : Nat)) ∧ cmpR (gets E (((k : Nat) : Int) - 1)) (gets E (k : Nat)) ≤ 1 := by
              rw [hp1]; unfold cmpR; rw [if_neg hlx]; split <;> omega
            repeat' (first | (apply AOps.nil; try simp only [List.nil_append, List.cons_append, List.set_cons_zero, List.set_cons_succ, List.length_cons, List.length_nil, Nat.reduceAdd, AV.sh, AV.sh1, AV.sh0, AO.sh, List.map_cons, List.map_nil, Nat.zero_add, Nat.add_zero, setAll]) | (apply w_move; exact rfl; exact rfl) | (apply w_assign; exact rfl; exact rfl) | apply AWp.seq | apply AWp.region | ((apply AWp.condP; exact rfl) <;> intro h) | apply AWp.block | apply AWp.exit | apply AWp.skip | omega | ((first | apply w_lss | apply w_idx | apply w_ld); iterate 3 exact rfl) | ((first | apply w_idxs | apply w_lds); iterate 3 exact rfl))
            refine AWp.regionQ (by kernel_rfl) (by kernel_rfl) ?_
            repeat' (first | (apply AOps.nil; try simp only [List.nil_append, List.cons_append, List.set_cons_zero, List.set_cons_succ, List.length_cons, List.length_nil, Nat.reduceAdd, AV.sh, AV.sh1, AV.sh0, AO.sh, List.map_cons, List.map_nil, Nat.zero_add, Nat.add_zero, setAll]) | ((apply AOps.splitP; exact rfl; exact rfl) <;> intro h) | (apply w_move; exact rfl; exact rfl) | (apply w_assign; exact rfl; exact rfl) | apply AWp.seq | apply AWp.region | ((apply AWp.condP; exact rfl) <;> intro h) | (apply AWp.condT; exact rfl) | (apply AWp.condF; exact rfl) | apply AWp.ret | apply AWp.skip | (apply w_skip; exact rfl) | (apply w_pickT; exact rfl; exact rfl; exact rfl) | (apply w_pickF; exact rfl; exact rfl; exact rfl) | (apply w_len; exact rfl; exact rfl; first | exact .ints _ | exact .intss _ | exact .sli rfl | exact .sls rfl | exact .slr rfl | exact .orow rfl | exact .nil) | (apply w_call (hcm); exact rfl; exact rfl; focus ((repeat (first | exact im_nil | refine im_cons rfl (.ints _) ?_)); done)) | omega | ((first | apply w_lss | apply w_gtr | apply w_geq | apply w_neq | apply w_sub | apply w_idx | apply w_ld | apply w_fa); iterate 3 exact rfl) | ((first | apply w_idxs | apply w_lds); iterate 3 exact rfl) | (apply w_ldb; iterate 5 exact rfl) | (apply inI_of <;> omega))
            all_goals try (exfalso; omega)
            all_goals exact .bool Try.results21 rfl hno.symm
      · have hno : gok W E = false := gok_f fun h => he (h.row _ hmem)
        unfold EIn at he
        repeat' (first | (apply AOps.nil; try simp only [List.nil_append, List.cons_append, List.set_cons_zero, List.set_cons_succ, List.length_cons, List.length_nil, Nat.reduceAdd, AV.sh, AV.sh1, AV.sh0, AO.sh, List.map_cons, List.map_nil, Nat.zero_add, Nat.add_zero, setAll]) | (apply w_move; exact rfl; exact rfl) | (apply w_assign; exact rfl; exact rfl) | apply AWp.seq | apply AWp.region | ((apply AWp.condP; exact rfl) <;> intro h) | apply AWp.block | apply AWp.exit | apply AWp.skip | omega | ((first | apply w_lss | apply w_idx | apply w_ld); iterate 3 exact rfl) | ((first | apply w_idxs | apply w_lds); iterate 3 exact rfl))
        refine AWp.regionQ (by kernel_rfl) (by kernel_rfl) ?_
        repeat' (first | (apply AOps.nil; try simp only [List.nil_append, List.cons_append, List.set_cons_zero, List.set_cons_succ, List.length_cons, List.length_nil, Nat.reduceAdd, AV.sh, AV.sh1, AV.sh0, AO.sh, List.map_cons, List.map_nil, Nat.zero_add, Nat.add_zero, setAll]) | ((apply AOps.splitP; exact rfl; exact rfl) <;> intro h) | (apply w_move; exact rfl; exact rfl) | (apply w_assign; exact rfl; exact rfl) | apply AWp.seq | apply AWp.region | ((apply AWp.condP; exact rfl) <;> intro h) | (apply AWp.condT; exact rfl) | apply AWp.ret | apply AWp.skip | (apply w_skip; exact rfl) | (apply w_pickT; exact rfl; exact rfl; exact rfl) | (apply w_pickF; exact rfl; exact rfl; exact rfl) | (apply w_len; exact rfl; exact rfl; first | exact .ints _ | exact .intss _ | exact .sli rfl | exact .sls rfl | exact .slr rfl | exact .orow rfl | exact .nil) | omega | ((first | apply w_lss | apply w_geq | apply w_neq | apply w_idx | apply w_ld); iterate 3 exact rfl))
        all_goals try (exfalso; omega)
        all_goals exact .bool Try.results21 rfl hno.symm
    · have ek : k = E.length := by omega
      subst ek
      rw [List.take_length] at k1 k2
      obtain ⟨ll, m, hm1, hm2, hm3, hm4, hm5⟩ := lab_max (by omega) k1
      have hlab := labels_c W.length E c2 (by omega) k1
      have hmx : maxL (labF W.length E) (geti (labF W.length E) 0) = m := maxL_eq (fun x hx => (hm1 x hx).2) (hm1 _ (geti_mem (by omega) (by omega))).2 (.inl hm2)
      have hmax := slicesMax_c (labF W.length E) (by omega) (by omega)
      rw [hmx] at hmax
      have hres : gok W E = decide (m + 1 + (E.length : Int) = W.length) := by
        rw [Bool.eq_iff_iff, gok_iff, decide_eq_true_iff, hm5]
        exact ⟨fun h => h.eff, fun h => ⟨⟨c1, c2⟩, c3, k1, k2, h⟩⟩
      generalize labF W.length E = L at *
      repeat' (first | (apply AOps.nil; try simp only [List.nil_append, List.cons_append, List.set_cons_zero, List.set_cons_succ, List.length_cons, List.length_nil, Nat.reduceAdd, AV.sh, AV.sh1, AV.sh0, AO.sh, List.map_cons, List.map_nil, Nat.zero_add, Nat.add_zero, setAll]) | (apply w_move; exact rfl; exact rfl) | (apply w_assign; exact rfl; exact rfl) | apply AWp.seq | apply AWp.region | ((apply AWp.condP; exact rfl) <;> intro h) | apply AWp.block | apply AWp.ret | apply AWp.exit | apply AWp.skip | (apply w_len; exact rfl; exact rfl; first | exact .ints _ | exact .intss _ | exact .sli rfl | exact .sls rfl | exact .slr rfl | exact .orow rfl | exact .nil) | (apply w_callm (hlab); (focus ((repeat (first | exact im_nil | refine im_cons rfl (.val _) ?_ | refine im_cons rfl (.intss _) ?_)); done)); rintro r os0 ⟨rfl, rfl⟩; try simp only [List.nil_append, List.cons_append, List.set_cons_zero, List.set_cons_succ, List.length_cons, List.length_nil, Nat.reduceAdd, AV.sh, AV.sh1, AV.sh0, AO.sh, List.map_cons, List.map_nil, Nat.zero_add, Nat.add_zero, setAll]) | (apply w_call (hmax); exact rfl; exact rfl; focus ((repeat (first | exact im_nil | refine im_cons rfl (.sli rfl) ?_)); done)) | omega | ((first | apply w_lss | apply w_eql | apply w_add | apply w_ld | apply w_fa); iterate 3 exact rfl) | (apply w_ldb; iterate 5 exact rfl) | (apply inI_of <;> omega))
      all_goals exact .bool Try.results21 rfl hres.symm
  · have hno : gok W E = false := gok_f fun h => c0 ⟨h.n.1, h.n.2, h.w, h.len⟩
    repeat' (first | (apply AOps.nil; try simp only [List.nil_append, List.cons_append, List.set_cons_zero, List.set_cons_succ, List.length_cons, List.length_nil, Nat.reduceAdd, AV.sh, AV.sh1, AV.sh0, AO.sh, List.map_cons, List.map_nil, Nat.zero_add, Nat.add_zero, setAll]) | ((apply AOps.splitP; exact rfl; exact rfl) <;> intro h) | (apply w_move; exact rfl; exact rfl) | (apply w_assign; exact rfl; exact rfl) | apply AWp.seq | apply AWp.region | ((apply AWp.condP; exact rfl) <;> intro h) | (apply AWp.condT; exact rfl) | apply AWp.block | apply AWp.ret | apply AWp.skip | (apply w_skip; exact rfl) | (apply w_pickT; exact rfl; exact rfl; exact rfl) | (apply w_pickF; exact rfl; exact rfl; exact rfl) | (apply w_len; exact rfl; exact rfl; first | exact .ints _ | exact .intss _ | exact .sli rfl | exact .sls rfl | exact .slr rfl | exact .orow rfl | exact .nil) | (apply w_call (hwi); exact rfl; exact rfl; focus ((repeat (first | exact im_nil | refine im_cons rfl (.val _) ?_ | refine im_cons rfl (.ints _) ?_)); done)) | ((first | apply w_lss | apply w_gtr | apply w_geq | apply w_ld | apply w_fa); iterate 3 exact rfl) | ((first | apply w_not | apply w_boxa); iterate 2 exact rfl) | (apply w_ldb; iterate 5 exact rfl) | ((apply AOps.splitB; exact rfl; exact rfl) <;> intro h))
    all_goals first | exact .bool Try.results21 rfl hno.symm | (exfalso; refine c0 ⟨by omega, by omega, ?_, by omega⟩; simp_all; done)
end Go.Proofs.Ythjkpmjdkcainaa
