/-
  Parts of the proof, one behind the other: contracts of functions and plain laws. No condition.
-/
import Derived.Shelf.Small.Bits
import Derived.Test.YtcolpjpppdmanaaProg
import Derived.Test.YtcolpjpppdmanaaPt4FnChainsAndP
/-
  Products that are not too large, one step of a determinant, comparisons. Condition: numbers of moderate size.
-/
namespace Go.Proofs.Ytcolpjpppdmanaa
open Go Go.RowKit
attribute [local irreducible] AWp AOps ResIs Ret1 QOp LOp COp AFnV AFn Imms LeE LeO
set_option maxHeartbeats 1000000
set_option linter.unusedSimpArgs false
set_option linter.unusedVariables false

theorem abs_m (a : Int) (ha : inM a) : AFnV Try.prog 34 [.i a] (.int .i64 a.natAbs) := by
  unfold inM at ha
  (refine AFnV.start Try.func34 Try.ntmps34 rfl (by kernel_rfl) fun hk => ?_; simp only [Env.start, enumF, List.length_cons, List.length_nil, Nat.reduceAdd, Nat.reduceSub, List.cons_append, List.nil_append])
  repeat' (first | (apply AOps.nil; try simp only [List.nil_append, List.cons_append, List.set_cons_zero, List.set_cons_succ, List.length_cons, List.length_nil, Nat.reduceAdd, AV.sh, AV.sh1, AV.sh0, AO.sh, List.map_cons, List.map_nil, Nat.zero_add, Nat.add_zero, setAll]) | (apply w_move; exact rfl; exact rfl) | (apply w_assign; exact rfl; exact rfl) | apply AWp.seq | apply AWp.region | ((apply AWp.condP; exact rfl) <;> intro h) | apply AWp.ret | apply AWp.skip | ((apply w_lss); iterate 3 exact rfl) | ((apply w_neg); iterate 2 exact rfl) | (apply inI_of <;> omega))
  all_goals exact .int Try.results34 rfl (by omega)
theorem tok0 {a b : Int} (h : a = 0 ∨ b = 0) : tok a b = true := by unfold tok; exact decide_eq_true (by omega)
theorem tok_iff {a b : Int} (ha : a ≠ 0) (hb : b ≠ 0) : tok a b = decide ((a.natAbs : Int) ≤ 1000000000000 / (b.natAbs : Int)) := by
  unfold tok
  rw [Bool.eq_iff_iff, decide_eq_true_iff, decide_eq_true_iff]
  constructor
  · rintro (h | h | h)
    · exact absurd h ha
    · exact absurd h hb
    · exact h
  · exact fun h => .inr (.inr h)
def tmV (a b : Int) : Int := if tok a b = true then a * b else 0
theorem tmV_in (a b : Int) : inM (tmV a b) := by
  unfold tmV
  split
  · exact tok_in ‹_›
  · exact inM0'
where
  inM0' : inM 0 := by unfold inM; omega
theorem ResIs.intboolA {P : Program} {env : Env} {os : List AO} {fn : Func} {t u : Tmp} (h : fn.results = #[.tmp t, .tmp u]) {a a' : Int} {b b' : Bool} (ht : env.fd t = some (.i a)) (hu : env.fd u = some (.b b)) (e : a = a') (e2 : b = b') : ResIs P fn env os (.val (.tuple #[.int .i64 a', .bool b'])) := by
  subst e; subst e2; exact .vv2 h ht hu
theorem times_c (a b : Int) (ha : inM a) (hb : inM b) : AFnV Try.prog 39 [.i a, .i b] (.tuple #[.int .i64 (tmV a b), .bool (tok a b)]) := by
  have c1 := abs_m a ha
  have c2 := abs_m b hb
  unfold inM at ha hb
  by_cases h0 : a = 0 ∨ b = 0
  · have ht := tok0 h0
    have hv : tmV a b = 0 := by unfold tmV; rw [if_pos ht]; rcases h0 with h | h <;> simp [h]
    rw [ht, hv]
    (refine AFnV.start Try.func39 Try.ntmps39 rfl (by kernel_rfl) fun hk => ?_; simp only [Env.start, enumF, List.length_cons, List.length_nil, Nat.reduceAdd, Nat.reduceSub, List.cons_append, List.nil_append])
    repeat' (first | (apply AOps.nil; try simp only [List.nil_append, List.cons_append, List.set_cons_zero, List.set_cons_succ, List.length_cons, List.length_nil, Nat.reduceAdd, AV.sh, AV.sh1, AV.sh0, AO.sh, List.map_cons, List.map_nil, Nat.zero_add, Nat.add_zero, setAll]) | ((apply AOps.splitP; exact rfl; exact rfl) <;> intro h) | (apply w_move; exact rfl; exact rfl) | (apply w_assign; exact rfl; exact rfl) | apply AWp.seq | apply AWp.region | ((apply AWp.condP; exact rfl) <;> intro h) | (apply AWp.condT; exact rfl) | apply AWp.ret | apply AWp.skip | (apply w_skip; exact rfl) | (apply w_pickT; exact rfl; exact rfl; exact rfl) | (apply w_pickF; exact rfl; exact rfl; exact rfl) | (apply w_call (c1); exact rfl; exact rfl; focus ((repeat (first | exact im_nil | refine im_cons rfl (.val _) ?_)); done)) | (apply w_call (c2); exact rfl; exact rfl; focus ((repeat (first | exact im_nil | refine im_cons rfl (.val _) ?_)); done)) | omega | ((apply w_eql); iterate 3 exact rfl))
    all_goals first | exact .intboolA Try.results39 rfl rfl rfl rfl | (exfalso; simp_all; done)
  · have h1 : a ≠ 0 := fun h => h0 (.inl h)
    have h2 : b ≠ 0 := fun h => h0 (.inr h)
    have hd := Int.ediv_le_self (b := (b.natAbs : Int)) (a := 1000000000000) (by omega)
    have hd0 := Int.ediv_nonneg (a := 1000000000000) (b := (b.natAbs : Int)) (by omega) (by omega)
    by_cases ht : (a.natAbs : Int) ≤ 1000000000000 / (b.natAbs : Int)
    · have ht' : tok a b = true := by rw [tok_iff h1 h2]; exact decide_eq_true ht
      have hv : tmV a b = a * b := by unfold tmV; rw [if_pos ht']
      have hp := tok_in ht'
      unfold inM at hp
      rw [ht', hv]
      (refine AFnV.start Try.func39 Try.ntmps39 rfl (by kernel_rfl) fun hk => ?_; simp only [Env.start, enumF, List.length_cons, List.length_nil, Nat.reduceAdd, Nat.reduceSub, List.cons_append, List.nil_append])
      repeat' (first | (apply AOps.nil; try simp only [List.nil_append, List.cons_append, List.set_cons_zero, List.set_cons_succ, List.length_cons, List.length_nil, Nat.reduceAdd, AV.sh, AV.sh1, AV.sh0, AO.sh, List.map_cons, List.map_nil, Nat.zero_add, Nat.add_zero, setAll]) | ((apply AOps.splitP; exact rfl; exact rfl) <;> intro h) | (apply w_move; exact rfl; exact rfl) | (apply w_assign; exact rfl; exact rfl) | apply AWp.seq | apply AWp.region | ((apply AWp.condP; exact rfl) <;> intro h) | (apply AWp.condT; exact rfl) | apply AWp.ret | apply AWp.skip | (apply w_skip; exact rfl) | (apply w_pickT; exact rfl; exact rfl; exact rfl) | (apply w_pickF; exact rfl; exact rfl; exact rfl) | (apply w_call (c1); exact rfl; exact rfl; focus ((repeat (first | exact im_nil | refine im_cons rfl (.val _) ?_)); done)) | (apply w_call (c2); exact rfl; exact rfl; focus ((repeat (first | exact im_nil | refine im_cons rfl (.val _) ?_)); done)) | omega | ((first | apply w_gtr | apply w_eql | apply w_mul); iterate 3 exact rfl) | (apply w_quo; exact rfl; exact rfl; exact rfl; (focus (omega; done)); (focus (omega; done))) | (apply inI_of <;> omega))
      all_goals first | exact .intboolA Try.results39 rfl rfl rfl rfl | (exfalso; simp_all; done) | (exfalso; simp_all; omega)
    · have ht' : tok a b = false := by rw [tok_iff h1 h2]; exact decide_eq_false ht
      have hv : tmV a b = 0 := by unfold tmV; rw [if_neg (by rw [ht']; simp)]
      rw [ht', hv]
      (refine AFnV.start Try.func39 Try.ntmps39 rfl (by kernel_rfl) fun hk => ?_; simp only [Env.start, enumF, List.length_cons, List.length_nil, Nat.reduceAdd, Nat.reduceSub, List.cons_append, List.nil_append])
      repeat' (first | (apply AOps.nil; try simp only [List.nil_append, List.cons_append, List.set_cons_zero, List.set_cons_succ, List.length_cons, List.length_nil, Nat.reduceAdd, AV.sh, AV.sh1, AV.sh0, AO.sh, List.map_cons, List.map_nil, Nat.zero_add, Nat.add_zero, setAll]) | ((apply AOps.splitP; exact rfl; exact rfl) <;> intro h) | (apply w_move; exact rfl; exact rfl) | (apply w_assign; exact rfl; exact rfl) | apply AWp.seq | apply AWp.region | ((apply AWp.condP; exact rfl) <;> intro h) | (apply AWp.condT; exact rfl) | apply AWp.ret | apply AWp.skip | (apply w_skip; exact rfl) | (apply w_pickT; exact rfl; exact rfl; exact rfl) | (apply w_pickF; exact rfl; exact rfl; exact rfl) | (apply w_call (c1); exact rfl; exact rfl; focus ((repeat (first | exact im_nil | refine im_cons rfl (.val _) ?_)); done)) | (apply w_call (c2); exact rfl; exact rfl; focus ((repeat (first | exact im_nil | refine im_cons rfl (.val _) ?_)); done)) | omega | ((first | apply w_gtr | apply w_eql); iterate 3 exact rfl) | (apply w_quo; exact rfl; exact rfl; exact rfl; (focus (omega; done)); (focus (omega; done))) | (apply inI_of <;> omega))
      all_goals first | exact .intboolA Try.results39 rfl rfl rfl rfl | (exfalso; simp_all; done) | (exfalso; simp_all; omega)
theorem isValue_c (n : Int) : AFnV Try.prog 70 [.i n] (.bool (decide (-1000000000000 ≤ n ∧ n ≤ 1000000000000))) := by
  (refine AFnV.start Try.func70 Try.ntmps70 rfl (by kernel_rfl) fun hk => ?_; simp only [Env.start, enumF, List.length_cons, List.length_nil, Nat.reduceAdd, Nat.reduceSub, List.cons_append, List.nil_append])
  repeat' (first | (apply AOps.nil; try simp only [List.nil_append, List.cons_append, List.set_cons_zero, List.set_cons_succ, List.length_cons, List.length_nil, Nat.reduceAdd, AV.sh, AV.sh1, AV.sh0, AO.sh, List.map_cons, List.map_nil, Nat.zero_add, Nat.add_zero, setAll]) | (apply w_move; exact rfl; exact rfl) | (apply w_assign; exact rfl; exact rfl) | apply AWp.seq | apply AWp.region | apply AWp.ret | (apply w_call (inRange_c _ _ _); exact rfl; exact rfl; focus ((repeat (first | exact im_nil | refine im_cons rfl (.val _) ?_)); done)))
  all_goals exact .bool Try.results70 rfl rfl

/-! ### Comparisons -/
open Classical in
noncomputable def cmpR (a b : List Int) : Int := if lx a b then -1 else if lx b a then 1 else 0
theorem isNaN_c (x : Int) : AFnV Try.prog 54 [.i x] (.bool false) := by
  (refine AFnV.start Try.func54 Try.ntmps54 rfl (by kernel_rfl) fun hk => ?_; simp only [Env.start, enumF, List.length_cons, List.length_nil, Nat.reduceAdd, Nat.reduceSub, List.cons_append, List.nil_append])
  repeat' (first | (apply AOps.nil; try simp only [List.nil_append, List.cons_append, List.set_cons_zero, List.set_cons_succ, List.length_cons, List.length_nil, Nat.reduceAdd, AV.sh, AV.sh1, AV.sh0, AO.sh, List.map_cons, List.map_nil, Nat.zero_add, Nat.add_zero, setAll]) | (apply w_move; exact rfl; exact rfl) | (apply w_assign; exact rfl; exact rfl) | apply AWp.seq | apply AWp.region | apply AWp.ret | ((apply w_neq); iterate 3 exact rfl))
  all_goals exact .bool Try.results54 rfl (by simp)
theorem cmpCompare_c (x y : Int) : AFnV Try.prog 45 [.i x, .i y] (.int .i64 (if x < y then -1 else if y < x then 1 else 0)) := by
  (refine AFnV.start Try.func45 Try.ntmps45 rfl (by kernel_rfl) fun hk => ?_; simp only [Env.start, enumF, List.length_cons, List.length_nil, Nat.reduceAdd, Nat.reduceSub, List.cons_append, List.nil_append])
  repeat' (first | (apply AOps.nil; try simp only [List.nil_append, List.cons_append, List.set_cons_zero, List.set_cons_succ, List.length_cons, List.length_nil, Nat.reduceAdd, AV.sh, AV.sh1, AV.sh0, AO.sh, List.map_cons, List.map_nil, Nat.zero_add, Nat.add_zero, setAll]) | (apply w_move; exact rfl; exact rfl) | (apply w_assign; exact rfl; exact rfl) | apply AWp.seq | apply AWp.region | ((apply AWp.condP; exact rfl) <;> intro h) | (apply AWp.condF; exact rfl) | apply AWp.ret | apply AWp.skip | (apply w_call (isNaN_c _); exact rfl; exact rfl; focus ((repeat (first | exact im_nil | refine im_cons rfl (.val _) ?_)); done)) | ((first | apply w_lss | apply w_gtr); iterate 3 exact rfl))
  all_goals exact .int Try.results45 rfl (by first | (split <;> first | omega | (split <;> omega)) | omega)
theorem compare_c (a b : List Int) (ha : a.length = 2) (hb : b.length = 2) : AFnV Try.prog 35 [.ints a, .ints b] (.int .i64 (cmpR a b)) := by
  (refine AFnV.start Try.func35 Try.ntmps35 rfl (by kernel_rfl) fun hk => ?_; simp only [Env.start, enumF, List.length_cons, List.length_nil, Nat.reduceAdd, Nat.reduceSub, List.cons_append, List.nil_append])
  repeat' (first | (apply AOps.nil; try simp only [List.nil_append, List.cons_append, List.set_cons_zero, List.set_cons_succ, List.length_cons, List.length_nil, Nat.reduceAdd, AV.sh, AV.sh1, AV.sh0, AO.sh, List.map_cons, List.map_nil, Nat.zero_add, Nat.add_zero, setAll]) | (apply w_move; exact rfl; exact rfl) | (apply w_assign; exact rfl; exact rfl) | apply AWp.seq | apply AWp.region | apply AWp.block | (apply w_len; exact rfl; exact rfl; first | exact .ints _ | exact .intss _ | exact .sli rfl | exact .sls rfl | exact .slr rfl | exact .orow rfl | exact .nil))
  refine AWp.loop (ι := Nat) (fun i => ⟨36, [(0, .ints a), (1, .ints b), (9, .ints a), (10, .i a.length), (11, .i i)]⟩) (fun _ => []) (fun i => i ≤ 2 ∧ (1 ≤ i → geti a 0 = geti b 0) ∧ (2 ≤ i → geti a 1 = geti b 1)) (fun i => 2 - i) 0 ⟨by omega, fun h => by omega, fun h => by omega⟩ ⟨lee rfl (by (repeat (first | exact le_nil | refine le_eq rfl rfl ?_))), by (repeat (exact lo_nil)), rfl, rfl⟩ ?_
  rintro i ⟨h0, h1, h2⟩
  have hc := cmpCompare_c (geti a i) (geti b i)
  rcases (show i = 0 ∨ i = 1 ∨ i = 2 by omega) with rfl | rfl | rfl
  · simp only [Int.natCast_zero] at hc
    by_cases hlt : geti a 0 < geti b 0
    · rw [if_pos hlt] at hc
      repeat' (first | (apply AOps.nil; try simp only [List.nil_append, List.cons_append, List.set_cons_zero, List.set_cons_succ, List.length_cons, List.length_nil, Nat.reduceAdd, AV.sh, AV.sh1, AV.sh0, AO.sh, List.map_cons, List.map_nil, Nat.zero_add, Nat.add_zero, setAll]) | (apply w_move; exact rfl; exact rfl) | (apply w_assign; exact rfl; exact rfl) | apply AWp.seq | apply AWp.region | ((apply AWp.condP; exact rfl) <;> intro h) | apply AWp.block | apply AWp.ret | apply AWp.exit | apply AWp.skip | (apply w_len; exact rfl; exact rfl; first | exact .ints _ | exact .intss _ | exact .sli rfl | exact .sls rfl | exact .slr rfl | exact .orow rfl | exact .nil) | (apply w_call (hc); exact rfl; exact rfl; focus ((repeat (first | exact im_nil | refine im_cons rfl (.val _) ?_)); done)) | omega | ((first | apply w_lss | apply w_geq | apply w_neq | apply w_idx | apply w_ld); iterate 3 exact rfl))
      exact .int Try.results35 rfl (by unfold cmpR; rw [if_pos (by unfold lx; omega)])
    · rw [if_neg hlt] at hc
      by_cases hgt : geti b 0 < geti a 0
      · rw [if_pos hgt] at hc
        repeat' (first | (apply AOps.nil; try simp only [List.nil_append, List.cons_append, List.set_cons_zero, List.set_cons_succ, List.length_cons, List.length_nil, Nat.reduceAdd, AV.sh, AV.sh1, AV.sh0, AO.sh, List.map_cons, List.map_nil, Nat.zero_add, Nat.add_zero, setAll]) | (apply w_move; exact rfl; exact rfl) | (apply w_assign; exact rfl; exact rfl) | apply AWp.seq | apply AWp.region | ((apply AWp.condP; exact rfl) <;> intro h) | apply AWp.block | apply AWp.ret | apply AWp.exit | apply AWp.skip | (apply w_len; exact rfl; exact rfl; first | exact .ints _ | exact .intss _ | exact .sli rfl | exact .sls rfl | exact .slr rfl | exact .orow rfl | exact .nil) | (apply w_call (hc); exact rfl; exact rfl; focus ((repeat (first | exact im_nil | refine im_cons rfl (.val _) ?_)); done)) | omega | ((first | apply w_lss | apply w_geq | apply w_neq | apply w_idx | apply w_ld); iterate 3 exact rfl))
        exact .int Try.results35 rfl (by unfold cmpR; rw [if_neg (by unfold lx; omega), if_pos (by unfold lx; omega)])
      · rw [if_neg hgt] at hc
        repeat' (first | (apply AOps.nil; try simp only [List.nil_append, List.cons_append, List.set_cons_zero, List.set_cons_succ, List.length_cons, List.length_nil, Nat.reduceAdd, AV.sh, AV.sh1, AV.sh0, AO.sh, List.map_cons, List.map_nil, Nat.zero_add, Nat.add_zero, setAll]) | (apply w_move; exact rfl; exact rfl) | (apply w_assign; exact rfl; exact rfl) | apply AWp.seq | apply AWp.region | ((apply AWp.condP; exact rfl) <;> intro h) | apply AWp.block | apply AWp.ret | apply AWp.exit | apply AWp.skip | (apply w_len; exact rfl; exact rfl; first | exact .ints _ | exact .intss _ | exact .sli rfl | exact .sls rfl | exact .slr rfl | exact .orow rfl | exact .nil) | (apply w_call (hc); exact rfl; exact rfl; focus ((repeat (first | exact im_nil | refine im_cons rfl (.val _) ?_)); done)) | omega | ((first | apply w_lss | apply w_geq | apply w_neq | apply w_add | apply w_idx | apply w_ld); iterate 3 exact rfl) | (apply inI_of <;> omega))
        exact ⟨1, ⟨by omega, fun _ => by omega, fun h => by omega⟩, by omega, ⟨lee rfl (by (repeat (first | exact le_nil | refine le_eq rfl rfl ?_))), by (repeat (exact lo_nil)), rfl, rfl⟩⟩
  · simp only [Int.natCast_one] at hc
    have e0 := h1 (by omega)
    by_cases hlt : geti a 1 < geti b 1
    · rw [if_pos hlt] at hc
      repeat' (first | (apply AOps.nil; try simp only [List.nil_append, List.cons_append, List.set_cons_zero, List.set_cons_succ, List.length_cons, List.length_nil, Nat.reduceAdd, AV.sh, AV.sh1, AV.sh0, AO.sh, List.map_cons, List.map_nil, Nat.zero_add, Nat.add_zero, setAll]) | (apply w_move; exact rfl; exact rfl) | (apply w_assign; exact rfl; exact rfl) | apply AWp.seq | apply AWp.region | ((apply AWp.condP; exact rfl) <;> intro h) | apply AWp.block | apply AWp.ret | apply AWp.exit | apply AWp.skip | (apply w_len; exact rfl; exact rfl; first | exact .ints _ | exact .intss _ | exact .sli rfl | exact .sls rfl | exact .slr rfl | exact .orow rfl | exact .nil) | (apply w_call (hc); exact rfl; exact rfl; focus ((repeat (first | exact im_nil | refine im_cons rfl (.val _) ?_)); done)) | omega | ((first | apply w_lss | apply w_geq | apply w_neq | apply w_idx | apply w_ld); iterate 3 exact rfl))
      exact .int Try.results35 rfl (by unfold cmpR; rw [if_pos (by unfold lx; omega)])
    · rw [if_neg hlt] at hc
      by_cases hgt : geti b 1 < geti a 1
      · rw [if_pos hgt] at hc
        repeat' (first | (apply AOps.nil; try simp only [List.nil_append, List.cons_append, List.set_cons_zero, List.set_cons_succ, List.length_cons, List.length_nil, Nat.reduceAdd, AV.sh, AV.sh1, AV.sh0, AO.sh, List.map_cons, List.map_nil, Nat.zero_add, Nat.add_zero, setAll]) | (apply w_move; exact rfl; exact rfl) | (apply w_assign; exact rfl; exact rfl) | apply AWp.seq | apply AWp.region | ((apply AWp.condP; exact rfl) <;> intro h) | apply AWp.block | apply AWp.ret | apply AWp.exit | apply AWp.skip | (apply w_len; exact rfl; exact rfl; first | exact .ints _ | exact .intss _ | exact .sli rfl | exact .sls rfl | exact .slr rfl | exact .orow rfl | exact .nil) | (apply w_call (hc); exact rfl; exact rfl; focus ((repeat (first | exact im_nil | refine im_cons rfl (.val _) ?_)); done)) | omega | ((first | apply w_lss | apply w_geq | apply w_neq | apply w_idx | apply w_ld); iterate 3 exact rfl))
        exact .int Try.results35 rfl (by unfold cmpR; rw [if_neg (by unfold lx; omega), if_pos (by unfold lx; omega)])
      · rw [if_neg hgt] at hc
        repeat' (first | (apply AOps.nil; try simp only [List.nil_append, List.cons_append, List.set_cons_zero, List.set_cons_succ, List.length_cons, List.length_nil, Nat.reduceAdd, AV.sh, AV.sh1, AV.sh0, AO.sh, List.map_cons, List.map_nil, Nat.zero_add, Nat.add_zero, setAll]) | (apply w_move; exact rfl; exact rfl) | (apply w_assign; exact rfl; exact rfl) | apply AWp.seq | apply AWp.region | ((apply AWp.condP; exact rfl) <;> intro h) | apply AWp.block | apply AWp.ret | apply AWp.exit | apply AWp.skip | (apply w_len; exact rfl; exact rfl; first | exact .ints _ | exact .intss _ | exact .sli rfl | exact .sls rfl | exact .slr rfl | exact .orow rfl | exact .nil) | (apply w_call (hc); exact rfl; exact rfl; focus ((repeat (first | exact im_nil | refine im_cons rfl (.val _) ?_)); done)) | omega | ((first | apply w_lss | apply w_geq | apply w_neq | apply w_add | apply w_idx | apply w_ld); iterate 3 exact rfl) | (apply inI_of <;> omega))
        exact ⟨2, ⟨by omega, fun _ => by omega, fun h => by omega⟩, by omega, ⟨lee rfl (by (repeat (first | exact le_nil | refine le_eq rfl rfl ?_))), by (repeat (exact lo_nil)), rfl, rfl⟩⟩
  · have e0 := h1 (by omega)
    have e1 := h2 (by omega)
    repeat' (first | (apply AOps.nil; try simp only [List.nil_append, List.cons_append, List.set_cons_zero, List.set_cons_succ, List.length_cons, List.length_nil, Nat.reduceAdd, AV.sh, AV.sh1, AV.sh0, AO.sh, List.map_cons, List.map_nil, Nat.zero_add, Nat.add_zero, setAll]) | (apply w_move; exact rfl; exact rfl) | (apply w_assign; exact rfl; exact rfl) | apply AWp.seq | apply AWp.region | ((apply AWp.condP; exact rfl) <;> intro h) | apply AWp.block | apply AWp.ret | apply AWp.exit | apply AWp.skip | (apply w_len; exact rfl; exact rfl; first | exact .ints _ | exact .intss _ | exact .sli rfl | exact .sls rfl | exact .slr rfl | exact .orow rfl | exact .nil) | omega | ((apply w_lss); iterate 3 exact rfl))
    exact .int Try.results35 rfl (by unfold cmpR; rw [if_neg (by unfold lx; omega), if_neg (by unfold lx; omega)])

/-! ### Greatest and least numbers -/
def maxL : List Int → Int → Int
  | [], m => m
  | x :: xs, m => maxL xs (max m x)
theorem take_geti {xs : List Int} {i : Nat} (h : i < xs.length) : xs.take (i + 1) = xs.take i ++ [geti xs (i : Nat)] := by
  rw [List.take_add_one, List.getElem?_eq_getElem h]; simp [geti, List.getD_eq_getElem?_getD, List.getElem?_eq_getElem h]
theorem maxL_app : ∀ (a b : List Int) (m : Int), maxL (a ++ b) m = maxL b (maxL a m)
  | [], b, m => rfl
  | x :: a, b, m => maxL_app a b _
theorem slicesMax_c (xs : List Int) (h : 0 < xs.length) (hl : xs.length ≤ 1000000) : AFnV Try.prog 36 [.ints xs] (.int .i64 (maxL xs (geti xs 0))) := by
  (refine AFnV.start Try.func36 Try.ntmps36 rfl (by kernel_rfl) fun hk => ?_; simp only [Env.start, enumF, List.length_cons, List.length_nil, Nat.reduceAdd, Nat.reduceSub, List.cons_append, List.nil_append])
  repeat' (first | (apply AOps.nil; try simp only [List.nil_append, List.cons_append, List.set_cons_zero, List.set_cons_succ, List.length_cons, List.length_nil, Nat.reduceAdd, AV.sh, AV.sh1, AV.sh0, AO.sh, List.map_cons, List.map_nil, Nat.zero_add, Nat.add_zero, setAll]) | (apply w_move; exact rfl; exact rfl) | (apply w_assign; exact rfl; exact rfl) | apply AWp.seq | apply AWp.region | ((apply AWp.condP; exact rfl) <;> intro h) | apply AWp.block | apply AWp.skip | (apply w_len; exact rfl; exact rfl; first | exact .ints _ | exact .intss _ | exact .sli rfl | exact .sls rfl | exact .slr rfl | exact .orow rfl | exact .nil) | omega | ((first | apply w_lss | apply w_idx | apply w_ld); iterate 3 exact rfl))
  refine AWp.loop (ι := Nat) (fun i => ⟨25, [(0, .ints xs), (3, .i (maxL (xs.take i) (geti xs 0))), (4, .i i)]⟩) (fun _ => []) (fun i => 1 ≤ i ∧ i ≤ xs.length) (fun i => xs.length - i) 1 (by omega) ⟨lee rfl (by
    refine le_eq rfl rfl ?_
    refine le_eq rfl (congrArg AV.i ?_) ?_
    · obtain ⟨x, xs, rfl⟩ : ∃ x xs', xs = x :: xs' := by cases xs with
        | nil => simp at h
        | cons x xs => exact ⟨x, xs, rfl⟩
      simp [maxL, geti]
    refine le_eq rfl rfl ?_
    exact le_nil), by (repeat (exact lo_nil)), rfl, rfl⟩ ?_
  rintro i ⟨i1, i2⟩
  by_cases hi : i < xs.length
  · have e1 : maxL (xs.take (i + 1)) (geti xs 0) = max (maxL (xs.take i) (geti xs 0)) (geti xs (i : Nat)) := by rw [take_geti hi, maxL_app]; rfl
    repeat' (first | (apply AOps.nil; try simp only [List.nil_append, List.cons_append, List.set_cons_zero, List.set_cons_succ, List.length_cons, List.length_nil, Nat.reduceAdd, AV.sh, AV.sh1, AV.sh0, AO.sh, List.map_cons, List.map_nil, Nat.zero_add, Nat.add_zero, setAll]) | (apply w_move; exact rfl; exact rfl) | (apply w_assign; exact rfl; exact rfl) | apply AWp.seq | apply AWp.region | ((apply AWp.condP; exact rfl) <;> intro h) | apply AWp.block | apply AWp.ret | apply AWp.exit | apply AWp.skip | (apply w_len; exact rfl; exact rfl; first | exact .ints _ | exact .intss _ | exact .sli rfl | exact .sls rfl | exact .slr rfl | exact .orow rfl | exact .nil) | omega | ((first | apply w_lss | apply w_add | apply w_idx | apply w_ld | apply w_max); iterate 3 exact rfl) | (apply inI_of <;> omega))
    exact ⟨i + 1, by omega, by omega, ⟨lee rfl (by (repeat (first | exact le_nil | refine le_eq rfl rfl ?_ | refine le_eq rfl (congrArg AV.i (by omega)) ?_))), by (repeat (exact lo_nil)), rfl, rfl⟩⟩
  · have e : i = xs.length := by omega
    subst e
    repeat' (first | (apply AOps.nil; try simp only [List.nil_append, List.cons_append, List.set_cons_zero, List.set_cons_succ, List.length_cons, List.length_nil, Nat.reduceAdd, AV.sh, AV.sh1, AV.sh0, AO.sh, List.map_cons, List.map_nil, Nat.zero_add, Nat.add_zero, setAll]) | (apply w_move; exact rfl; exact rfl) | (apply w_assign; exact rfl; exact rfl) | apply AWp.seq | apply AWp.region | ((apply AWp.condP; exact rfl) <;> intro h) | apply AWp.block | apply AWp.ret | apply AWp.exit | apply AWp.skip | (apply w_len; exact rfl; exact rfl; first | exact .ints _ | exact .intss _ | exact .sli rfl | exact .sls rfl | exact .slr rfl | exact .orow rfl | exact .nil) | omega | ((apply w_lss); iterate 3 exact rfl))
    exact .int Try.results36 rfl (by rw [List.take_length])
end Go.Proofs.Ytcolpjpppdmanaa
/-
  bits.Len, by the library's own contract laid at this dump in plain words. No condition.
-/
namespace Go.Proofs.Ytcolpjpppdmanaa
open Go Go.RowKit Go.Shelf
def lays125_ren : Go.Shelf.Ren := ⟨fun | 125 => 51 | 128 => 68 | 129 => 69 | n => n, fun | 46 => 58 | 3 => 3 | 51 => 97 | 53 => 55 | 4 => 4 | 5 => 5 | 9 => 9 | n => n, fun | n => n⟩
theorem lays125 : Go.Proofs.Lays.n125 Try.prog lays125_ren := {
  mixed := by kernel_rfl
  f125 := Try.func51.trans (congrArg some (by kernel_rfl))
  f128 := Try.func68.trans (congrArg some (by kernel_rfl))
  f129 := Try.func69.trans (congrArg some (by kernel_rfl))
  t3 := Try.underlying3
  a3 := Try.isAgg3
  z3 := Try.sizeOf3
  v3 := Try.zeroValue3
  t4 := Try.underlying4
  a4 := Try.isAgg4
  z4 := Try.sizeOf4
  v4 := Try.zeroValue4
  t5 := Try.underlying5
  a5 := Try.isAgg5
  z5 := Try.sizeOf5
  v5 := Try.zeroValue5
  t9 := Try.underlying9
  a9 := Try.isAgg9
  z9 := Try.sizeOf9
  v9 := Try.zeroValue9
  t46 := Try.underlying58
  a46 := Try.isAgg58
  z46 := Try.sizeOf58
  v46 := Try.zeroValue58
  t51 := Try.underlying97
  a51 := Try.isAgg97
  z51 := Try.sizeOf97
  v51 := Try.zeroValue97
  t53 := Try.underlying55
  a53 := Try.isAgg55
  z53 := Try.sizeOf55
  v53 := Try.zeroValue55 }
theorem bits_Len (x : Int) (w : World) (h0 : 0 ≤ x) (h1 : x ≤ 18446744073709551615) :
    Calls Try.prog 51 #[.int .u64 x] w fun e w' => e = .returned (.int .i64 (Lib.bitLen x.toNat)) ∧ w' = w := Any.bits_Len lays125 x w h0 h1
theorem bitsLen_c (n : Int) (h0 : 0 ≤ n) (h1 : n ≤ 18446744073709551615) : AFnV Try.prog 51 [.val (.int .u64 n)] (.int .i64 (Lib.bitLen n.toNat)) := by
  refine ⟨⟨_, _, Try.func51, by kernel_rfl, rfl⟩, fun w vs ⟨h2, h3⟩ => ?_⟩
  have e0 := h3 0
  obtain ⟨l⟩ := vs
  match l, h2 with
  | [v], _ =>
    have e1 : RV w (fun _ => True) [] v (.val (.int .u64 n)) := by simpa using e0
    cases e1
    exact (bits_Len n w h0 h1).mono fun e w' ⟨he, hw⟩ => ⟨he, hw ▸ Below.refl _ _⟩
end Go.Proofs.Ytcolpjpppdmanaa
/-
  Functions without results that write to what they are handed. No condition.
-/
namespace Go.Proofs.Ytcolpjpppdmanaa
open Go Go.RowKit
theorem AFnUN.of {P : Program} {f : FuncId} {fn : Func} {c : Code} {args : List AV} {os : List AO} {Q : Value → List AO → Prop} {n : Nat} (hf : P.funcs[f]? = some fn) (hb : fn.body = some c) (hnm : (fn.name == "runtime.NumGoroutine") = false) (hn : fn.ntmps - args.length = n)
    (h : ∀ K, AWp P c (fun env os1 => ∃ v os', ResIs P fn env os1 (.val v) ∧ Q v os' ∧ os1.take os.length = os' ∧ os1[os.length]? = some (.keep (os.length + 1) K) ∧ ∀ o ∈ os', o.plain) (fun _ _ _ => False) (fun env os1 => ∃ v os', ResIs P fn env os1 (.val v) ∧ Q v os' ∧ os1.take os.length = os' ∧ os1[os.length]? = some (.keep (os.length + 1) K) ∧ ∀ o ∈ os', o.plain) (Env.start args n) (os ++ [.keep (os.length + 1) K])) :
    AFnU P f args os Q := by
  refine ⟨⟨fn, c, hf, hnm, hb⟩, fun base w gs vs hbase hO hsz hvs => calls_of_wp hf hb ?_⟩
  rw [show fn.ntmps - vs.size = n by rw [hsz]; exact hn]
  let bl : List Nat := (List.range w.heap.size).filter fun b => decide (base ≤ b) && gs.all fun g => !g.bl.contains b
  let gk : Gh := ⟨undef, 0, bl, []⟩
  let K : Kp := ⟨fun b => w.heap[b]?, gs ++ [gk]⟩
  have hbl : ∀ b, b ∈ bl ↔ b < w.heap.size ∧ base ≤ b ∧ ∀ (h : Nat) g, gs[h]? = some g → b ∉ g.bl := by
    intro b
    simp only [bl, List.mem_filter, List.mem_range, Bool.and_eq_true, decide_eq_true_eq, List.all_eq_true, Bool.not_eq_true', List.contains_eq_mem, decide_eq_false_iff_not]
    constructor
    · rintro ⟨h1, h2, h3⟩
      exact ⟨h1, h2, fun h g hg => h3 g (List.mem_of_getElem? hg)⟩
    · rintro ⟨h1, h2, h3⟩
      exact ⟨h1, h2, fun g hg => by obtain ⟨i, hi⟩ := List.getElem?_of_mem hg; exact h3 i g hi⟩
  have hl := hO.hl
  have part : ∀ {i : Nat} {x : Gh} {y : AO}, (gs ++ [gk])[i]? = some x → (os ++ [.keep (os.length + 1) K])[i]? = some y → (gs[i]? = some x ∧ os[i]? = some y) ∨ (i = os.length ∧ x = gk ∧ y = .keep (os.length + 1) K) := by
    intro i x y hx hy
    rcases append_one hx with ⟨h1, h2⟩ | ⟨h1, rfl⟩
    · rcases append_one hy with ⟨h3, h4⟩ | ⟨h3, rfl⟩
      · exact .inl ⟨h2, h4⟩
      · omega
    · rcases append_one hy with ⟨h3, h4⟩ | ⟨h3, rfl⟩
      · omega
      · exact .inr ⟨h3, rfl, rfl⟩
  have gl : ∀ (i : Nat) x, gs[i]? = some x → (gs ++ [gk])[i]? = some x := fun i x e => by
    rw [List.getElem?_append_left (List.getElem?_eq_some_iff.1 e).1]; exact e
  have kp : Keeps (okOf gs os) (okOf (gs ++ [gk]) (os ++ [.keep (os.length + 1) K])) w w := by
    intro b hbk _
    refine ⟨fun i x y hx hy hny hm => ?_, rfl⟩
    rcases part hx hy with ⟨h1, h2⟩ | ⟨_, _, rfl⟩
    · exact hbk i x y h1 h2 hny hm
    · exact hny.elim
  have hrel : Rel base w (gs ++ [gk]) (Env.start args n) (os ++ [.keep (os.length + 1) K]) (vs ++ Array.replicate n undef) := by
    refine ⟨hbase, by simp [hl], by simp [Env.start, hsz], fun i => ?_, ?_, ?_, ?_⟩
    · exact start_rv args n vs (fun i => (hvs i).mono kp gl) i
    · intro i x y hx hy
      rcases part hx hy with ⟨h1, h2⟩ | ⟨_, rfl, rfl⟩
      · exact (hO.hp y (List.mem_of_getElem? h2)).ro (hO.ho i x y h1 h2)
      · exact ⟨fun b _ => rfl, by simp [K, hl], fun i x h => h⟩
    · intro i j g1 g2 o1 o2 hij hg1 hg2 ho1 ho2 _ _ b hb1 hb2
      rcases part hg1 ho1 with ⟨a1, a2⟩ | ⟨a1, rfl, _⟩
      · rcases part hg2 ho2 with ⟨b1, b2⟩ | ⟨_, rfl, _⟩
        · exact hO.hd i j g1 g2 hij a1 b1 b hb1 hb2
        · exact ((hbl b).1 hb2).2.2 i g1 a1 hb1
      · rcases part hg2 ho2 with ⟨b1, b2⟩ | ⟨b1, _, _⟩
        · exact ((hbl b).1 hb1).2.2 j g2 b1 hb2
        · omega
    · intro i x y hx hy _ b hb
      rcases part hx hy with ⟨h1, h2⟩ | ⟨_, rfl, _⟩
      · exact hO.hn i x h1 b hb
      · exact ⟨((hbl b).1 hb).2.1, ((hbl b).1 hb).1⟩
  refine wp_mono (h K base w w _ _ hrel (Below.refl _ _)) ?_
  intro e a w' hq
  cases e with
  | normal =>
    obtain ⟨env, os1, gs1, hr, hd, hbel, v, os', h1, h2, h3, h4, h5⟩ := hq
    obtain ⟨u, hu, hv⟩ := h1 _ _ _ _ hr
    cases hv
    have hlt : os.length < os1.length := (List.getElem?_eq_some_iff.1 h4).1
    have hltg : os.length < gs1.length := by have := hr.hl; omega
    obtain ⟨g1, hg1⟩ : ∃ g1, gs1[os.length]? = some g1 := ⟨_, List.getElem?_eq_getElem hltg⟩
    obtain ⟨r1, r2, r3⟩ := hr.ho _ _ _ hg1 h4
    have pin : ∀ (i : Nat) x, gs[i]? = some x → gs1[i]? = some x := fun i x e => r3 i x (gl i x e)
    have egk : g1 = gk := by
      have := r3 os.length gk (by show (gs ++ [gk])[os.length]? = some gk; rw [← hl]; simp)
      rw [hg1] at this
      exact Option.some.inj this
    rw [egk] at r1
    have get' : ∀ {i : Nat} {y : AO}, os'[i]? = some y → os1[i]? = some y ∧ i < os.length := by
      intro i y hy
      rw [← h3, List.getElem?_take] at hy
      split at hy
      · exact ⟨hy, ‹_›⟩
      · cases hy
    refine ⟨hd, v, hu, v, os', rfl, h2, ⟨?_, h5, ?_, hO.hd, ?_⟩, hbel, ?_⟩
    · rw [← h3, List.length_take]; omega
    · intro i x y hx hy
      obtain ⟨h6, h7⟩ := get' hy
      exact (h5 y (List.mem_of_getElem? hy)).ro (hr.ho i x y (pin i x hx) h6)
    · intro i x hx b hb
      have := hO.hn i x hx b hb
      exact ⟨this.1, Nat.lt_of_lt_of_le this.2 hbel.size⟩
    · intro b hb hnot
      rcases Nat.lt_or_ge b base with h6 | h6
      · exact hbel.block b h6
      · exact r1 b ((hbl b).2 ⟨hb, h6, hnot⟩)
  | exit j => obtain ⟨_, _, _, _, _, _, hx⟩ := hq; exact hx.elim
  | ret =>
    obtain ⟨env, os1, gs1, hr, hd, hbel, v, os', h1, h2, h3, h4, h5⟩ := hq
    obtain ⟨u, hu, hv⟩ := h1 _ _ _ _ hr
    cases hv
    have hlt : os.length < os1.length := (List.getElem?_eq_some_iff.1 h4).1
    have hltg : os.length < gs1.length := by have := hr.hl; omega
    obtain ⟨g1, hg1⟩ : ∃ g1, gs1[os.length]? = some g1 := ⟨_, List.getElem?_eq_getElem hltg⟩
    obtain ⟨r1, r2, r3⟩ := hr.ho _ _ _ hg1 h4
    have pin : ∀ (i : Nat) x, gs[i]? = some x → gs1[i]? = some x := fun i x e => r3 i x (gl i x e)
    have egk : g1 = gk := by
      have := r3 os.length gk (by show (gs ++ [gk])[os.length]? = some gk; rw [← hl]; simp)
      rw [hg1] at this
      exact Option.some.inj this
    rw [egk] at r1
    have get' : ∀ {i : Nat} {y : AO}, os'[i]? = some y → os1[i]? = some y ∧ i < os.length := by
      intro i y hy
      rw [← h3, List.getElem?_take] at hy
      split at hy
      · exact ⟨hy, ‹_›⟩
      · cases hy
    refine ⟨hd, v, hu, v, os', rfl, h2, ⟨?_, h5, ?_, hO.hd, ?_⟩, hbel, ?_⟩
    · rw [← h3, List.length_take]; omega
    · intro i x y hx hy
      obtain ⟨h6, h7⟩ := get' hy
      exact (h5 y (List.mem_of_getElem? hy)).ro (hr.ho i x y (pin i x hx) h6)
    · intro i x hx b hb
      have := hO.hn i x hx b hb
      exact ⟨this.1, Nat.lt_of_lt_of_le this.2 hbel.size⟩
    · intro b hb hnot
      rcases Nat.lt_or_ge b base with h6 | h6
      · exact hbel.block b h6
      · exact r1 b ((hbl b).2 ⟨hb, h6, hnot⟩)
  | goto l => exact (hq : False).elim
  | panic ch => exact (hq : False).elim
  | outgrown => exact (hq : False).elim


theorem AFnUN.start {P : Program} {f : FuncId} {fn : Func} {c : Code} {args : List AV} {objs : List AO} {Q : Value → List AO → Prop} {m : Nat} (hf : P.funcs[f]? = some fn) (hn : fn.ntmps = m) (hb : fn.body = some c) (hnm : (fn.name == "runtime.NumGoroutine") = false)
    (h : ∀ K, AWp P c (fun env os1 => ∃ v os', ResIs P fn env os1 (.val v) ∧ Q v os' ∧ os1.take objs.length = os' ∧ os1[objs.length]? = some (.keep (objs.length + 1) K) ∧ ∀ o ∈ os', o.plain) (fun _ _ _ => False) (fun env os1 => ∃ v os', ResIs P fn env os1 (.val v) ∧ Q v os' ∧ os1.take objs.length = os' ∧ os1[objs.length]? = some (.keep (objs.length + 1) K) ∧ ∀ o ∈ os', o.plain) (Env.start args (m - args.length)) (objs ++ [.keep (objs.length + 1) K])) :
    AFnU P f args objs Q := AFnUN.of hf hb hnm (by rw [hn]) h
theorem ResIs.unit {P : Program} {fn : Func} {env : Env} {os : List AO} (h : fn.results = #[]) : ResIs P fn env os (.val (.tuple #[])) :=
  fun _ _ _ tm hr => ⟨.tuple #[], by unfold results; rw [h]; simp, .val _⟩
end Go.Proofs.Ytcolpjpppdmanaa
/-
  Sorting what is in order already: nothing is written. Condition: few numbers.
-/
namespace Go.Proofs.Ytcolpjpppdmanaa
open Go Go.RowKit
attribute [local irreducible] AWp AOps ResIs Ret1 QOp LOp COp AFnV AFn Imms LeE LeO
set_option maxHeartbeats 1000000
set_option linter.unusedSimpArgs false
set_option linter.unusedVariables false

def Srt (xs : List Int) : Prop := ∀ i j : Nat, i ≤ j → j < xs.length → geti xs (i : Nat) ≤ geti xs (j : Nat)
theorem srt_of {xs : List Int} (h : xs.Pairwise (· < ·)) : Srt xs := by
  intro i j hij hj
  rcases Nat.lt_or_eq_of_le hij with h1 | rfl
  · have := List.pairwise_iff_getElem.1 h i j (by omega) hj h1
    simp only [geti, Int.toNat_natCast, List.getD_eq_getElem?_getD, List.getElem?_eq_getElem hj, List.getElem?_eq_getElem (show i < xs.length by omega), Option.getD_some]
    omega
  · omega
theorem less_c (a b : Int) : AFnV Try.prog 65 [.i a, .i b] (.bool (decide (a < b))) := by
  (refine AFnV.start Try.func65 Try.ntmps65 rfl (by kernel_rfl) fun hk => ?_; simp only [Env.start, enumF, List.length_cons, List.length_nil, Nat.reduceAdd, Nat.reduceSub, List.cons_append, List.nil_append])
  repeat' (first | (apply AOps.nil; try simp only [List.nil_append, List.cons_append, List.set_cons_zero, List.set_cons_succ, List.length_cons, List.length_nil, Nat.reduceAdd, AV.sh, AV.sh1, AV.sh0, AO.sh, List.map_cons, List.map_nil, Nat.zero_add, Nat.add_zero, setAll]) | (apply w_move; exact rfl; exact rfl) | (apply w_assign; exact rfl; exact rfl) | apply AWp.seq | apply AWp.region | apply AWp.ret | (apply w_skip; exact rfl) | (apply w_pickF; exact rfl; exact rfl; exact rfl) | (apply w_call (isNaN_c _); exact rfl; exact rfl; focus ((repeat (first | exact im_nil | refine im_cons rfl (.val _) ?_)); done)) | ((apply w_lss); iterate 3 exact rfl))
  all_goals exact .bool Try.results65 rfl (by simp)
theorem insertionSort_s (xs : List Int) (hs : Srt xs) (hl : xs.length ≤ 12) : AFnU Try.prog 59 [.ints xs, .i 0, .i xs.length] [] (fun v os => v = .tuple #[] ∧ os = []) := by
  (refine AFnUN.start Try.func59 Try.ntmps59 rfl (by kernel_rfl) fun K => ?_; simp only [Env.start, enumF, List.length_cons, List.length_nil, Nat.reduceAdd, Nat.reduceSub, List.cons_append, List.nil_append])
  repeat' (first | (apply AOps.nil; try simp only [List.nil_append, List.cons_append, List.set_cons_zero, List.set_cons_succ, List.length_cons, List.length_nil, Nat.reduceAdd, AV.sh, AV.sh1, AV.sh0, AO.sh, List.map_cons, List.map_nil, Nat.zero_add, Nat.add_zero, setAll]) | (apply w_move; exact rfl; exact rfl) | (apply w_assign; exact rfl; exact rfl) | apply AWp.seq | apply AWp.region | apply AWp.block | ((apply w_add); iterate 3 exact rfl) | (apply inI_of <;> omega))
  refine AWp.loop (ι := Nat) (fun p => ⟨49, [(0, .ints xs), (1, .i 0), (2, .i xs.length), (6, .i (p + 1))]⟩) (fun p => [.keep 1 K]) (fun p => p ≤ xs.length) (fun p => xs.length - p) 0 (by omega) ⟨lee rfl (by (repeat (first | exact le_nil | refine le_eq rfl rfl ?_))), by (repeat (first | exact lo_nil | refine lo_eq rfl ?_)), rfl, rfl⟩ ?_
  rintro p p0
  by_cases hp : p + 1 < xs.length
  · have hle := hs p (p + 1) (by omega) hp
    have e1 : ((p : Int) + 1 - 1) = (p : Nat) := by omega
    have e2 : ((p : Int) + 1) = ((p + 1 : Nat) : Int) := by omega
    rw [← e1, ← e2] at hle
    repeat' (first | (apply AOps.nil; try simp only [List.nil_append, List.cons_append, List.set_cons_zero, List.set_cons_succ, List.length_cons, List.length_nil, Nat.reduceAdd, AV.sh, AV.sh1, AV.sh0, AO.sh, List.map_cons, List.map_nil, Nat.zero_add, Nat.add_zero, setAll]) | (apply w_move; exact rfl; exact rfl) | (apply w_assign; exact rfl; exact rfl) | apply AWp.seq | apply AWp.region | ((apply AWp.condP; exact rfl) <;> intro h) | apply AWp.block | apply AWp.exit | apply AWp.skip | (apply if_pos'; exact rfl) | omega | ((apply w_lss); iterate 3 exact rfl))
    refine AWp.loop (ι := Unit) (fun _ => ⟨49, [(0, .ints xs), (1, .i 0), (2, .i xs.length), (6, .i (p + 1)), (7, .i (p + 1))]⟩) (fun _ => [.keep 1 K]) (fun _ => True) (fun _ => 0) () trivial ⟨lee rfl (by (repeat (first | exact le_nil | refine le_eq rfl rfl ?_))), by (repeat (first | exact lo_nil | refine lo_eq rfl ?_)), rfl, rfl⟩ ?_
    rintro _ _
    have hc := less_c (geti xs ((p : Int) + 1)) (geti xs ((p : Int) + 1 - 1))
    rw [decide_eq_false (by omega)] at hc
    repeat' (first | (apply AOps.nil; try simp only [List.nil_append, List.cons_append, List.set_cons_zero, List.set_cons_succ, List.length_cons, List.length_nil, Nat.reduceAdd, AV.sh, AV.sh1, AV.sh0, AO.sh, List.map_cons, List.map_nil, Nat.zero_add, Nat.add_zero, setAll]) | ((apply AOps.splitP; exact rfl; exact rfl) <;> intro h) | (apply w_move; exact rfl; exact rfl) | (apply w_assign; exact rfl; exact rfl) | apply AWp.seq | apply AWp.region | (apply AWp.condF; exact rfl) | apply AWp.exit | (apply AWp.regionQ; kernel_rfl; kernel_rfl) | (apply w_skip; exact rfl) | (apply w_pickT; exact rfl; exact rfl; exact rfl) | (apply w_pickF; exact rfl; exact rfl; exact rfl) | (apply w_call (hc); exact rfl; exact rfl; focus ((repeat (first | exact im_nil | refine im_cons rfl (.val _) ?_)); done)) | omega | ((first | apply w_gtr | apply w_add | apply w_sub | apply w_idx | apply w_ld); iterate 3 exact rfl) | (apply inI_of <;> omega))
    all_goals exact ⟨p + 1, by omega, by omega, ⟨lee rfl (by (repeat (first | exact le_nil | refine le_eq rfl rfl ?_))), by (repeat (first | exact lo_nil | refine lo_eq rfl ?_)), rfl, rfl⟩⟩
  · repeat' (first | (apply AOps.nil; try simp only [List.nil_append, List.cons_append, List.set_cons_zero, List.set_cons_succ, List.length_cons, List.length_nil, Nat.reduceAdd, AV.sh, AV.sh1, AV.sh0, AO.sh, List.map_cons, List.map_nil, Nat.zero_add, Nat.add_zero, setAll]) | (apply w_move; exact rfl; exact rfl) | (apply w_assign; exact rfl; exact rfl) | apply AWp.seq | apply AWp.region | ((apply AWp.condP; exact rfl) <;> intro h) | apply AWp.block | apply AWp.exit | apply AWp.skip | (apply if_pos'; exact rfl) | omega | ((apply w_lss); iterate 3 exact rfl))
    exact ⟨_, _, .unit Try.results59, ⟨rfl, rfl⟩, rfl, rfl, by simp⟩
theorem order2_s (xs : List Int) (hs : Srt xs) (a b : Nat) (hab : a ≤ b) (hb : b < xs.length) : AFnV Try.prog 77 [.ints xs, .i a, .i b, .any] (.tuple #[.int .i64 a, .int .i64 b]) := by
  have hle := hs a b hab hb
  have hc := less_c (geti xs (b : Nat)) (geti xs (a : Nat))
  rw [decide_eq_false (by omega)] at hc
  (refine AFnV.start Try.func77 Try.ntmps77 rfl (by kernel_rfl) fun hk0 => ?_; simp only [Env.start, enumF, List.length_cons, List.length_nil, Nat.reduceAdd, Nat.reduceSub, List.cons_append, List.nil_append])
  obtain ⟨hk, hl⟩ : ArgOk (.ints xs) := hk0 _ (by simp)
  repeat' (first | (apply AOps.nil; try simp only [List.nil_append, List.cons_append, List.set_cons_zero, List.set_cons_succ, List.length_cons, List.length_nil, Nat.reduceAdd, AV.sh, AV.sh1, AV.sh0, AO.sh, List.map_cons, List.map_nil, Nat.zero_add, Nat.add_zero, setAll]) | (apply w_move; exact rfl; exact rfl) | (apply w_assign; exact rfl; exact rfl) | apply AWp.seq | apply AWp.region | (apply AWp.condF; exact rfl) | apply AWp.ret | apply AWp.skip | (apply AWp.regionQ; kernel_rfl; kernel_rfl) | (apply w_call (hc); exact rfl; exact rfl; focus ((repeat (first | exact im_nil | refine im_cons rfl (.val _) ?_)); done)) | omega | ((first | apply w_idx | apply w_ld); iterate 3 exact rfl))
  all_goals exact .intint Try.results77 rfl rfl rfl rfl
theorem median_s (xs : List Int) (hs : Srt xs) (a b c : Nat) (hab : a ≤ b) (hbc : b ≤ c) (hc : c < xs.length) : AFnV Try.prog 76 [.ints xs, .i a, .i b, .i c, .any] (.int .i64 b) := by
  have h1 := order2_s xs hs a b hab (by omega)
  have h2 := order2_s xs hs b c hbc hc
  (refine AFnV.start Try.func76 Try.ntmps76 rfl (by kernel_rfl) fun hk => ?_; simp only [Env.start, enumF, List.length_cons, List.length_nil, Nat.reduceAdd, Nat.reduceSub, List.cons_append, List.nil_append])
  repeat' (first | (apply AOps.nil; try simp only [List.nil_append, List.cons_append, List.set_cons_zero, List.set_cons_succ, List.length_cons, List.length_nil, Nat.reduceAdd, AV.sh, AV.sh1, AV.sh0, AO.sh, List.map_cons, List.map_nil, Nat.zero_add, Nat.add_zero, setAll]) | (apply w_move; exact rfl; exact rfl) | (apply w_assign; exact rfl; exact rfl) | apply AWp.seq | apply AWp.region | apply AWp.ret | (apply w_call (h1); exact rfl; exact rfl; focus ((repeat (first | exact im_nil | refine im_cons rfl (.any _) ?_ | refine im_cons rfl (.val _) ?_ | refine im_cons rfl (.ints _) ?_)); done)) | (apply w_call (h2); exact rfl; exact rfl; focus ((repeat (first | exact im_nil | refine im_cons rfl (.any _) ?_ | refine im_cons rfl (.val _) ?_ | refine im_cons rfl (.ints _) ?_)); done)) | ((apply w_extv); iterate 3 exact rfl))
  all_goals exact .int Try.results76 rfl rfl
theorem choosePivot_s (xs : List Int) (hs : Srt xs) (h0 : 12 < xs.length) (h1 : xs.length < 50) : AFnV Try.prog 62 [.ints xs, .i 0, .i xs.length] (.tuple #[.int .i64 ((xs.length / 4 * 2 : Nat) : Int), .int .i64 1]) := by
  have hm := median_s xs hs (xs.length / 4) (xs.length / 4 * 2) (xs.length / 4 * 3) (by omega) (by omega) (by omega)
  have e0 : ((xs.length : Int) - 0) = (xs.length : Int) := by omega
  have e1 : (0 : Int) + ((xs.length : Int) - 0) / 4 * 1 = ((xs.length / 4 : Nat) : Int) := by omega
  have e2 : (0 : Int) + ((xs.length : Int) - 0) / 4 * 2 = ((xs.length / 4 * 2 : Nat) : Int) := by omega
  have e3 : (0 : Int) + ((xs.length : Int) - 0) / 4 * 3 = ((xs.length / 4 * 3 : Nat) : Int) := by omega
  rw [← e1, ← e2, ← e3] at hm
  rw [← e2]
  (refine AFnV.start Try.func62 Try.ntmps62 rfl (by kernel_rfl) fun hk => ?_; simp only [Env.start, enumF, List.length_cons, List.length_nil, Nat.reduceAdd, Nat.reduceSub, List.cons_append, List.nil_append])
  repeat' (first | (apply AOps.nil; try simp only [List.nil_append, List.cons_append, List.set_cons_zero, List.set_cons_succ, List.length_cons, List.length_nil, Nat.reduceAdd, AV.sh, AV.sh1, AV.sh0, AO.sh, List.map_cons, List.map_nil, Nat.zero_add, Nat.add_zero, setAll]) | (apply w_move; exact rfl; exact rfl) | (apply w_assign; exact rfl; exact rfl) | apply AWp.seq | apply AWp.region | ((apply AWp.condP; exact rfl) <;> intro h) | apply AWp.block | apply AWp.ret | apply AWp.skip | (apply w_call (hm); exact rfl; exact rfl; focus ((repeat (first | exact im_nil | refine im_cons rfl (.any _) ?_ | refine im_cons rfl (.val _) ?_ | refine im_cons rfl (.ints _) ?_)); done)) | omega | ((first | apply w_geq | apply w_eql | apply w_add | apply w_sub | apply w_mul | apply w_ld); iterate 3 exact rfl) | (apply w_quo; exact rfl; exact rfl; exact rfl; (focus (omega; done)); (focus (omega; done))) | (apply w_ldb; iterate 5 exact rfl) | (apply w_alone; iterate 3 exact rfl) | (apply inI_of <;> omega))
  all_goals first | exact .intint Try.results62 rfl rfl rfl rfl | (exfalso; simp_all; done) | (exfalso; omega)
theorem partial_s (xs : List Int) (hs : Srt xs) (h0 : 12 < xs.length) (h1 : xs.length < 50) : AFnV Try.prog 64 [.ints xs, .i 0, .i xs.length] (.bool true) := by
  (refine AFnV.start Try.func64 Try.ntmps64 rfl (by kernel_rfl) fun hk => ?_; simp only [Env.start, enumF, List.length_cons, List.length_nil, Nat.reduceAdd, Nat.reduceSub, List.cons_append, List.nil_append])
  repeat' (first | (apply AOps.nil; try simp only [List.nil_append, List.cons_append, List.set_cons_zero, List.set_cons_succ, List.length_cons, List.length_nil, Nat.reduceAdd, AV.sh, AV.sh1, AV.sh0, AO.sh, List.map_cons, List.map_nil, Nat.zero_add, Nat.add_zero, setAll]) | (apply w_move; exact rfl; exact rfl) | (apply w_assign; exact rfl; exact rfl) | apply AWp.seq | apply AWp.region | apply AWp.block | ((apply w_add); iterate 3 exact rfl) | (apply inI_of <;> omega))
  refine AWp.loop (ι := Unit) (fun _ => ⟨133, [(0, .ints xs), (1, .i 0), (2, .i xs.length), (7, .i 1), (8, .i 0)]⟩) (fun _ => []) (fun _ => True) (fun _ => 0) () trivial ⟨lee rfl (by (repeat (first | exact le_nil | refine le_eq rfl rfl ?_))), by (repeat (exact lo_nil)), rfl, rfl⟩ ?_
  rintro _ _
  repeat' (first | (apply AOps.nil; try simp only [List.nil_append, List.cons_append, List.set_cons_zero, List.set_cons_succ, List.length_cons, List.length_nil, Nat.reduceAdd, AV.sh, AV.sh1, AV.sh0, AO.sh, List.map_cons, List.map_nil, Nat.zero_add, Nat.add_zero, setAll]) | (apply w_move; exact rfl; exact rfl) | (apply w_assign; exact rfl; exact rfl) | apply AWp.seq | apply AWp.region | ((apply AWp.condP; exact rfl) <;> intro h) | apply AWp.block | apply AWp.ret | apply AWp.exit | apply AWp.skip | omega | ((apply w_lss); iterate 3 exact rfl))
  refine AWp.loop (ι := Nat) (fun p => ⟨133, [(0, .ints xs), (1, .i 0), (2, .i xs.length), (7, .i (p + 1)), (8, .i 0)]⟩) (fun p => []) (fun p => p + 1 ≤ xs.length) (fun p => xs.length - p) 0 (by omega) ⟨lee rfl (by (repeat (first | exact le_nil | refine le_eq rfl rfl ?_))), by (repeat (exact lo_nil)), rfl, rfl⟩ ?_
  rintro p p0
  by_cases hp : p + 1 < xs.length
  · have hle := hs p (p + 1) (by omega) hp
    have e1 : ((p : Int) + 1 - 1) = (p : Nat) := by omega
    have e2 : ((p : Int) + 1) = ((p + 1 : Nat) : Int) := by omega
    rw [← e1, ← e2] at hle
    have hc := less_c (geti xs ((p : Int) + 1)) (geti xs ((p : Int) + 1 - 1))
    rw [decide_eq_false (by omega)] at hc
    repeat' (first | (apply AOps.nil; try simp only [List.nil_append, List.cons_append, List.set_cons_zero, List.set_cons_succ, List.length_cons, List.length_nil, Nat.reduceAdd, AV.sh, AV.sh1, AV.sh0, AO.sh, List.map_cons, List.map_nil, Nat.zero_add, Nat.add_zero, setAll]) | ((apply AOps.splitP; exact rfl; exact rfl) <;> intro h) | (apply w_move; exact rfl; exact rfl) | (apply w_assign; exact rfl; exact rfl) | apply AWp.seq | apply AWp.region | (apply AWp.condT; exact rfl) | (apply AWp.condF; exact rfl) | apply AWp.block | apply AWp.exit | apply AWp.skip | (apply AWp.regionQ; kernel_rfl; kernel_rfl) | (apply w_skip; exact rfl) | (apply w_pickT; exact rfl; exact rfl; exact rfl) | (apply w_pickF; exact rfl; exact rfl; exact rfl) | (apply w_call (hc); exact rfl; exact rfl; focus ((repeat (first | exact im_nil | refine im_cons rfl (.val _) ?_)); done)) | omega | ((first | apply w_lss | apply w_add | apply w_sub | apply w_idx | apply w_ld); iterate 3 exact rfl) | ((apply w_not); iterate 2 exact rfl) | (apply inI_of <;> omega))
    all_goals exact ⟨p + 1, by omega, by omega, ⟨lee rfl (by (repeat (first | exact le_nil | refine le_eq rfl rfl ?_))), by (repeat (exact lo_nil)), rfl, rfl⟩⟩
  · repeat' (first | (apply AOps.nil; try simp only [List.nil_append, List.cons_append, List.set_cons_zero, List.set_cons_succ, List.length_cons, List.length_nil, Nat.reduceAdd, AV.sh, AV.sh1, AV.sh0, AO.sh, List.map_cons, List.map_nil, Nat.zero_add, Nat.add_zero, setAll]) | ((apply AOps.splitP; exact rfl; exact rfl) <;> intro h) | (apply w_move; exact rfl; exact rfl) | (apply w_assign; exact rfl; exact rfl) | apply AWp.seq | apply AWp.region | ((apply AWp.condP; exact rfl) <;> intro h) | (apply AWp.condF; exact rfl) | apply AWp.ret | apply AWp.exit | apply AWp.skip | (apply AWp.regionQ; kernel_rfl; kernel_rfl) | (apply w_skip; exact rfl) | (apply w_pickF; exact rfl; exact rfl; exact rfl) | omega | ((first | apply w_lss | apply w_eql); iterate 3 exact rfl))
    all_goals exact .bool Try.results64 rfl rfl
theorem pdq_s (xs : List Int) (hs : Srt xs) (lim : Int) (hl : 12 < xs.length → 0 < lim) (h1 : xs.length < 50) : AFnU Try.prog 50 [.ints xs, .i 0, .i xs.length, .i lim] [] (fun v os => v = .tuple #[] ∧ os = []) := by
  by_cases h0 : xs.length ≤ 12
  · have hi := insertionSort_s xs hs h0
    (refine AFnUN.start Try.func50 Try.ntmps50 rfl (by kernel_rfl) fun K => ?_; simp only [Env.start, enumF, List.length_cons, List.length_nil, Nat.reduceAdd, Nat.reduceSub, List.cons_append, List.nil_append])
    repeat' (first | (apply AOps.nil; try simp only [List.nil_append, List.cons_append, List.set_cons_zero, List.set_cons_succ, List.length_cons, List.length_nil, Nat.reduceAdd, AV.sh, AV.sh1, AV.sh0, AO.sh, List.map_cons, List.map_nil, Nat.zero_add, Nat.add_zero, setAll]) | (apply w_assign; exact rfl; exact rfl) | apply AWp.seq | apply AWp.region | apply AWp.block)
    refine AWp.loop (ι := Unit) (fun _ => ⟨134, [(0, .ints xs), (1, .i 0), (2, .i xs.length), (3, .i lim), (8, .b true), (9, .b true)]⟩) (fun _ => [.keep 1 K]) (fun _ => True) (fun _ => 0) () trivial ⟨lee rfl (by (repeat (first | exact le_nil | refine le_eq rfl rfl ?_))), by (repeat (first | exact lo_nil | refine lo_eq rfl ?_)), rfl, rfl⟩ ?_
    rintro _ _
    repeat' (first | (apply AOps.nil; try simp only [List.nil_append, List.cons_append, List.set_cons_zero, List.set_cons_succ, List.length_cons, List.length_nil, Nat.reduceAdd, AV.sh, AV.sh1, AV.sh0, AO.sh, List.map_cons, List.map_nil, Nat.zero_add, Nat.add_zero, setAll]) | (apply w_move; exact rfl; exact rfl) | (apply w_assign; exact rfl; exact rfl) | apply AWp.seq | apply AWp.region | ((apply AWp.condP; exact rfl) <;> intro h) | apply AWp.block | apply AWp.ret | apply AWp.skip | (apply w_callu [] (hi); (exact handed0); (focus ((repeat (first | exact imu_nil | refine imu_cons rfl (.val _) ?_ | refine imu_cons rfl (.ints _) ?_)); done)); rintro v os0 ⟨rfl, rfl⟩; try simp only [List.nil_append, List.cons_append, List.set_cons_zero, List.set_cons_succ, List.length_cons, List.length_nil, Nat.reduceAdd, AV.sh, AV.sh1, AV.sh0, AO.sh, List.map_cons, List.map_nil, Nat.zero_add, Nat.add_zero, setAll]) | omega | ((first | apply w_leq | apply w_sub); iterate 3 exact rfl) | (apply inI_of <;> omega))
    all_goals exact ⟨_, _, .unit Try.results50, ⟨rfl, rfl⟩, rfl, rfl, by simp⟩
  · have hc := choosePivot_s xs hs (by omega) h1
    have hp := partial_s xs hs (by omega) h1
    have hl := hl (by omega)
    (refine AFnUN.start Try.func50 Try.ntmps50 rfl (by kernel_rfl) fun K => ?_; simp only [Env.start, enumF, List.length_cons, List.length_nil, Nat.reduceAdd, Nat.reduceSub, List.cons_append, List.nil_append])
    repeat' (first | (apply AOps.nil; try simp only [List.nil_append, List.cons_append, List.set_cons_zero, List.set_cons_succ, List.length_cons, List.length_nil, Nat.reduceAdd, AV.sh, AV.sh1, AV.sh0, AO.sh, List.map_cons, List.map_nil, Nat.zero_add, Nat.add_zero, setAll]) | (apply w_assign; exact rfl; exact rfl) | apply AWp.seq | apply AWp.region | apply AWp.block)
    refine AWp.loop (ι := Unit) (fun _ => ⟨134, [(0, .ints xs), (1, .i 0), (2, .i xs.length), (3, .i lim), (8, .b true), (9, .b true)]⟩) (fun _ => [.keep 1 K]) (fun _ => True) (fun _ => 0) () trivial ⟨lee rfl (by (repeat (first | exact le_nil | refine le_eq rfl rfl ?_))), by (repeat (first | exact lo_nil | refine lo_eq rfl ?_)), rfl, rfl⟩ ?_
    rintro _ _
    repeat' (first | (apply AOps.nil; try simp only [List.nil_append, List.cons_append, List.set_cons_zero, List.set_cons_succ, List.length_cons, List.length_nil, Nat.reduceAdd, AV.sh, AV.sh1, AV.sh0, AO.sh, List.map_cons, List.map_nil, Nat.zero_add, Nat.add_zero, setAll]) | ((apply AOps.splitP; exact rfl; exact rfl) <;> intro h) | (apply w_move; exact rfl; exact rfl) | (apply w_assign; exact rfl; exact rfl) | apply AWp.seq | apply AWp.region | ((apply AWp.condP; exact rfl) <;> intro h) | (apply AWp.condT; exact rfl) | (apply AWp.condF; exact rfl) | apply AWp.block | apply AWp.ret | apply AWp.skip | (apply AWp.regionQ; kernel_rfl; kernel_rfl) | (apply w_skip; exact rfl) | (apply w_pickT; exact rfl; exact rfl; exact rfl) | (apply w_pickF; exact rfl; exact rfl; exact rfl) | (apply w_call (hc); exact rfl; exact rfl; focus ((repeat (first | exact im_nil | refine im_cons rfl (.val _) ?_ | refine im_cons rfl (.ints _) ?_)); done)) | (apply w_call (hp); exact rfl; exact rfl; focus ((repeat (first | exact im_nil | refine im_cons rfl (.val _) ?_ | refine im_cons rfl (.ints _) ?_)); done)) | omega | ((first | apply w_leq | apply w_gtr | apply w_eql | apply w_sub | apply w_extv); iterate 3 exact rfl) | ((apply w_not); iterate 2 exact rfl) | (apply inI_of <;> omega))
    all_goals first | exact ⟨_, _, .unit Try.results50, ⟨rfl, rfl⟩, rfl, rfl, by simp⟩ | (exfalso; simp_all; done)
theorem bitLen_pos {n : Nat} (h : 0 < n) : 0 < Lib.bitLen n := by
  unfold Lib.bitLen
  rw [Lib.bitLenAux]
  split
  · omega
  · omega
theorem sort_s (xs : List Int) (hs : Srt xs) (h1 : xs.length < 50) : AFnU Try.prog 41 [.ints xs] [] (fun v os => v = .tuple #[] ∧ os = []) := by
  have hb := bitsLen_c (xs.length : Int) (by omega) (by omega)
  have hp := pdq_s xs hs (Lib.bitLen (xs.length : Int).toNat) (fun h => by
    have := bitLen_pos (n := (xs.length : Int).toNat) (by omega)
    omega) h1
  (refine AFnUN.start Try.func41 Try.ntmps41 rfl (by kernel_rfl) fun K => ?_; simp only [Env.start, enumF, List.length_cons, List.length_nil, Nat.reduceAdd, Nat.reduceSub, List.cons_append, List.nil_append])
  repeat' (first | (apply AOps.nil; try simp only [List.nil_append, List.cons_append, List.set_cons_zero, List.set_cons_succ, List.length_cons, List.length_nil, Nat.reduceAdd, AV.sh, AV.sh1, AV.sh0, AO.sh, List.map_cons, List.map_nil, Nat.zero_add, Nat.add_zero, setAll]) | (apply w_move; exact rfl; exact rfl) | (apply w_assign; exact rfl; exact rfl) | apply AWp.seq | apply AWp.region | (apply w_len; exact rfl; exact rfl; first | exact .ints _ | exact .intss _ | exact .sli rfl | exact .sls rfl | exact .slr rfl | exact .orow rfl | exact .nil) | ((apply w_convu); iterate 2 exact rfl) | (apply w_call (hb); exact rfl; exact rfl; focus ((repeat (first | exact im_nil | refine im_cons rfl (.val _) ?_)); done)) | (apply w_callu [] (hp); (exact handed0); (focus ((repeat (first | exact imu_nil | refine imu_cons rfl (.val _) ?_ | refine imu_cons rfl (.ints _) ?_)); done)); rintro v os0 ⟨rfl, rfl⟩; try simp only [List.nil_append, List.cons_append, List.set_cons_zero, List.set_cons_succ, List.length_cons, List.length_nil, Nat.reduceAdd, AV.sh, AV.sh1, AV.sh0, AO.sh, List.map_cons, List.map_nil, Nat.zero_add, Nat.add_zero, setAll]) | omega)
  all_goals exact ⟨_, _, .unit Try.results41, ⟨rfl, rfl⟩, rfl, rfl, by simp⟩
end Go.Proofs.Ytcolpjpppdmanaa
/-
  A row of own rows that grows in its place. No condition.
-/
namespace Go.Proofs.Ytcolpjpppdmanaa
open Go Go.RowKit

theorem ownsRow_lower {w : World} {base base' : Nat} {e : TypeId} {size : Nat} {v : Value} {n : Nat} {xs : List Value} (h : w.ownsRow base e size v n xs) (hb : base' ≤ base) : w.ownsRow base' e size v n xs := by
  obtain ⟨h1, h2⟩ := h
  refine ⟨h1, ?_⟩
  rcases h2 with h2 | ⟨g, cap, cur, hv, hb1, r⟩
  · exact .inl h2
  · exact .inr ⟨g, cap, cur, hv, Nat.le_trans hb hb1, r⟩
/-- Own rows, of which row i has grown and is not yet back in its cell. -/
def PendP (e e2 : TypeId) (xss : List (List Int)) (i : Nat) (base : Nat) (w : World) (g : Gh) : Prop :=
  ∃ (cs : List Value) (bs : List (List Nat)) (mb : List Nat), w.ownsRow base e 1 g.v cs.length cs ∧ cs.length = xss.length ∧ bs.length = xss.length ∧ g.rows.length = xss.length ∧ (∀ j : Nat, j ≠ i → g.rows[j]? = cs[j]?) ∧
    (∀ (j : Nat) u, g.rows[j]? = some u → w.ownsRow base e2 1 u (xss.getD j []).length ((xss.getD j []).map (Value.int .i64)) ∧ (∀ x ∈ xss.getD j [], inI x) ∧ u.ownBlock.toList = bs.getD j []) ∧
    ((g.v.ownBlock = none ∧ mb = []) ∨ (g.v.ownBlock = some g.b ∧ mb = [g.b])) ∧ g.bl = mb ++ bs.flatten ∧ g.bl.Nodup
theorem mem_main {g : Gh} {mb : List Nat} (h : (g.v.ownBlock = none ∧ mb = []) ∨ (g.v.ownBlock = some g.b ∧ mb = [g.b])) {k : Nat} (hk : g.v.ownBlock = some k) : k ∈ mb := by
  rcases h with ⟨h1, _⟩ | ⟨h1, h2⟩
  · rw [h1] at hk; cases hk
  · rw [h1] at hk; cases hk; rw [h2]; simp
theorem mem_row {bs : List (List Nat)} {j : Nat} {u : Value} (hj : j < bs.length) (h : u.ownBlock.toList = bs.getD j []) {k : Nat} (hk : u.ownBlock = some k) : k ∈ bs.flatten := by
  refine List.mem_flatten.2 ⟨bs.getD j [], ?_, by rw [← h, hk]; simp⟩
  rw [List.getD_eq_getElem?_getD, List.getElem?_eq_getElem hj]; exact List.getElem_mem _
def pendOb (e e2 : TypeId) (xss : List (List Int)) (i : Nat) : Ob where
  p := PendP e e2 xss i
  up {base w w' g} hb h := by
    obtain ⟨cs, bs, mb, a1, a2, a3, a4, a5, a6, a7, a8, a9⟩ := h
    refine ⟨cs, bs, mb, ownsRow_of_block a1 fun k hk => hb k (by rw [a8]; exact List.mem_append.2 (.inl (mem_main a7 hk))), a2, a3, a4, a5, fun j u hu => ?_, a7, a8, a9⟩
    obtain ⟨r1, r2, r3⟩ := a6 j u hu
    have hj := (List.getElem?_eq_some_iff.1 hu).1
    exact ⟨ownsRow_of_block r1 fun k hk => hb k (by rw [a8]; exact List.mem_append.2 (.inr (mem_row (by omega) r3 hk))), r2, r3⟩
  lower hl h := by
    obtain ⟨cs, bs, mb, a1, a2, a3, a4, a5, a6, a7, a8, a9⟩ := h
    exact ⟨cs, bs, mb, ownsRow_lower a1 hl, a2, a3, a4, a5, fun j u hu => ⟨ownsRow_lower (a6 j u hu).1 hl, (a6 j u hu).2⟩, a7, a8, a9⟩
  one h := by
    obtain ⟨cs, bs, mb, a1, _⟩ := h
    obtain ⟨a, c, e⟩ := ownsRow_slice a1
    rw [e]; exact ⟨rfl, rfl⟩

theorem nodup_setrow {mb : List Nat} {bs : List (List Nat)} {i : Nat} {c : List Nat} (h : (mb ++ bs.flatten).Nodup) (hi : i < bs.length) (hc : c.Nodup) (hn : ∀ x ∈ c, x ∈ bs.getD i [] ∨ x ∉ mb ++ bs.flatten) : (mb ++ (bs.set i c).flatten).Nodup := by
  rw [flatten_set c hi]
  rw [flatten_at hi] at h hn
  generalize (bs.take i).flatten = A at *
  generalize (bs.drop (i + 1)).flatten = B at *
  generalize bs.getD i [] = R at *
  simp only [List.nodup_append, List.mem_append] at h hn ⊢
  obtain ⟨h1, ⟨h2, ⟨h3, h4, h5⟩, h6⟩, h7⟩ := h
  refine ⟨h1, ⟨h2, ⟨hc, h4, fun a ha b hb e => ?_⟩, fun a ha b hb e => ?_⟩, fun a ha b hb e => ?_⟩
  · subst e
    rcases hn a ha with hr | hr
    · exact h5 a hr a hb rfl
    · exact hr (.inr (.inr (.inr hb)))
  · subst e
    rcases hb with hb | hb
    · rcases hn a hb with hr | hr
      · exact h6 a ha a (.inl hr) rfl
      · exact hr (.inr (.inl ha))
    · exact h6 a ha a (.inr hb) rfl
  · subst e
    rcases hb with hb | hb | hb
    · exact h7 a ha a (.inl hb) rfl
    · rcases hn a hb with hr | hr
      · exact h7 a ha a (.inr (.inl hr)) rfl
      · exact hr (.inl ha)
    · exact h7 a ha a (.inr (.inr hb)) rfl
theorem getD_set_if (xss : List (List Int)) (i j : Nat) (ys : List Int) (hi : i < xss.length) : (xss.set i ys).getD j [] = if j = i then ys else xss.getD j [] := by
  simp only [List.getD_eq_getElem?_getD, List.getElem?_set]
  by_cases e : i = j
  · subst e; simp [hi]
  · have e' : ¬ j = i := fun h => e h.symm
    simp [e, e']
theorem getD_set_ifn (bs : List (List Nat)) (i j : Nat) (c : List Nat) (hi : i < bs.length) : (bs.set i c).getD j [] = if j = i then c else bs.getD j [] := by
  simp only [List.getD_eq_getElem?_getD, List.getElem?_set]
  by_cases e : i = j
  · subst e; simp [hi]
  · have e' : ¬ j = i := fun h => e h.symm
    simp [e, e']

section
variable {P : Program} {env : Env} {os : List AO} {d : Option Tmp} {ty : TypeId} {pos : String} {af : Array Edge} {g : Option (Nat × Bool)}
set_option maxHeartbeats 2000000 in
/-- Numbers are appended to a row. -/
theorem l_append_orow {t2 e2' : TypeId} {bytes : Nat} [ht : TSlice P t2 e2'] [he : TElem P e2' (.int .i64 0) bytes] {x y : Operand} {h i k : Nat} {e e2 e3 : TypeId} {xss : List (List Int)} {ys : List Int} (hx : AV.ev env x = .orow h i) (hs : os[h]? = some (.sls e e2 xss)) (hi : i < xss.length) (he2 : e2 = e2')
    (hy : AV.ev env y = .own k) (hk : os[k]? = some (.sli e3 ys)) (hhk : (h == k) = false) (hp : 0 < ys.length) (hb : ((xss.getD i []).length + ys.length) * bytes ≤ 140737488355328) :
    LOp P ⟨d, .call { callee := .builtin .append, args := #[x, y], argTypes := #[t2, t2] }, ty, pos, af, g⟩ env os (.orow h i) (env.mp (AV.noRow h)) (((os.map (AO.via (AV.noRow h) h)).set h (.ob (pendOb e e2 (xss.set i (xss.getD i [] ++ ys)) i))).set k .dead) := by
  subst he2
  have hne : h ≠ k := by simpa using hhk
  intro base w gs tm hr
  have hxv := hr.ev x
  have hyv := hr.ev y
  rw [hx] at hxv
  rw [hy] at hyv
  generalize hv : Act.eval ⟨tm, []⟩ x = v at hxv
  generalize hu : Act.eval ⟨tm, []⟩ y = u at hyv
  cases hxv with
  | @orow _ _ gh _ hg hrow =>
  cases hyv with
  | @own _ gk hgk =>
    obtain ⟨vs, bs, mb, a1, a2, a3, a4, a5, a6, a7, a8⟩ := hr.ho _ _ _ hg hs
    obtain ⟨b1, b2, b3⟩ := hr.ho _ _ _ hgk hk
    have hrv : vs[i]? = some v := by rw [← a4]; exact hrow
    obtain ⟨r1, r2, r3⟩ := a5 i v hrv
    have hiv : i < vs.length := by omega
    have hib : i < bs.length := by omega
    obtain ⟨bk, ck, q1, q2, q3, q4⟩ := own_slice b1 (i := 0) (by simpa using hp)
    have hcells : ∀ (j : Nat) z, (ys.map (Value.int .i64))[j]? = some z → w.cell? ((⟨bk, 0, none⟩ : Addr).add j) = some z := by
      intro j z hz
      have hj := (List.getElem?_eq_some_iff.1 hz).1
      obtain ⟨bk', ck', p1, p2, p3, _⟩ := own_slice b1 (i := j) hj
      have eb : bk' = bk := by rw [q2] at p2; exact (Option.some.inj p2).symm
      subst eb
      rw [add_none, Nat.zero_add, p3]; exact hz
    obtain ⟨ii, hi', hsz, hz, hby⟩ := he.info
    have hml : (xss.getD i []).length + ys.length ≤ maxLen := by
      have hb0 := he.pos
      have : (xss.getD i []).length + ys.length ≤ ((xss.getD i []).length + ys.length) * bytes := Nat.le_mul_of_pos_right _ hb0
      simp only [maxLen]; omega
    obtain ⟨v', w', s1, s2, s3, _, s5⟩ := run_append_own_at (P := P) w base t2 ty e2 ii _ 1 bytes ht.und hi' hz hsz hby rfl (by omega) v _ _ r1 ⟨bk, 0, none⟩ ys.length ck (ys.map (Value.int .i64)) (by simp) hcells
      (fun z hz => by obtain ⟨n, _, rfl⟩ := List.mem_map.1 hz; rfl) hml hb hr.hb
    have hsub : ∀ b, v.ownBlock = some b → b ∈ bs.flatten := fun b hb => mem_row hib r3 hb
    have hgl : ∀ b, b ∈ gh.bl → b < w.heap.size := fun b hb => (hr.hn _ _ _ hg hs (by simp) b hb).2
    have hother : ∀ c, c < w.heap.size → c ∉ gh.bl → w'.heap[c]? = w.heap[c]? := fun c hc hcb => s3.block c hc fun e => hcb (by rw [a7]; exact List.mem_append.2 (.inr (hsub c e.symm)))
    have hvo : ∀ b, v'.ownBlock = some b → (v.ownBlock = some b ∨ b = w.heap.size) ∧ b < w'.heap.size := fun b hb => by
      refine ⟨?_, ?_⟩
      · rcases s5 with s5 | s5
        · left; rw [← s5]; exact hb
        · right; rw [s5] at hb; exact (Option.some.inj hb).symm
      · rcases s2.2 with ⟨e1, _⟩ | ⟨gg, cc, cur, e1, _, hgg, _⟩
        · rw [e1] at hb; cases hb
        · rw [e1] at hb; cases hb; exact (Array.getElem?_eq_some_iff.1 hgg).1
    let g' : Gh := ⟨gh.v, gh.b, mb ++ (bs.set i v'.ownBlock.toList).flatten, gh.rows.set i v'⟩
    have hhg : h < gs.length := (List.getElem?_eq_some_iff.1 hg).1
    have sv : SameV h gs (gs.set h g') := by
      refine ⟨fun j z hj hz => ?_, fun z hz => ⟨g', by simp [hhg], ?_⟩⟩
      · rw [List.getElem?_set, if_neg (fun e => hj e.symm)]; exact hz
      · rw [hg] at hz; cases hz; exact ⟨rfl, rfl⟩
    have hmem : ∀ c, c ∈ g'.bl → c ∈ gh.bl ∨ c = w.heap.size ∧ c < w'.heap.size := by
      intro c hc
      rcases List.mem_append.1 hc with hc | hc
      · left; rw [a7]; exact List.mem_append.2 (.inl hc)
      · rw [flatten_set _ hib] at hc
        rcases List.mem_append.1 hc with hc | hc
        · left; rw [a7, flatten_at hib]; simp [hc]
        · rcases List.mem_append.1 hc with hc | hc
          · have hc' : v'.ownBlock = some c := by
              cases hvb : v'.ownBlock with
              | none => rw [hvb] at hc; simp at hc
              | some z => rw [hvb] at hc; simp at hc; rw [hc]
            obtain ⟨h1, h2⟩ := hvo c hc'
            rcases h1 with h1 | h1
            · left; rw [a7]; exact List.mem_append.2 (.inr (hsub c h1))
            · exact .inr ⟨h1, h2⟩
          · left; rw [a7, flatten_at hib]; simp [hc]
    refine ⟨v', w', gs.set h g', .inl ?_, hr.absorb hg hs trivial hgk hk trivial hne g' _ (AV.noRow h) rfl hother s3.size ?_ (fun kp hv => hv.noRow kp sv) ?_, ?_, ?_⟩
    · simp only [execOp, resolve, invoke, builtin, Sem.run_bind, Sem.run_pure, Result.andThen_ok, List.map_toArray, List.map_cons, List.map_nil, hv, hu, q1, s1]
    · intro c hc
      rcases hmem c hc with h1 | ⟨h1, h2⟩
      · exact ⟨.inl h1, Nat.lt_of_lt_of_le (hgl c h1) s3.size⟩
      · exact ⟨.inr (.inr (Nat.le_of_eq h1.symm)), h2⟩
    · intro kp
      have a8' := a8
      rw [a7] at a8'
      have hnot : ∀ c, c < w.heap.size → v.ownBlock ≠ some c → w'.heap[c]? = w.heap[c]? := fun c hc hn => s3.block c hc fun e => hn e.symm
      refine ⟨vs, bs.set i v'.ownBlock.toList, mb, ?_, by simp [a2], by simp [a3], by simp [g', a4, a2], fun j hj => ?_, fun j z hz => ?_, a6, rfl, ?_⟩
      · refine ownsRow_of_block a1 fun c hc => hnot c (hgl c (by rw [a7]; exact List.mem_append.2 (.inl (mem_main a6 hc)))) fun e => ?_
        exact (List.nodup_append.1 a8').2.2 c (mem_main a6 hc) c (hsub c e) rfl
      · show (gh.rows.set i v')[j]? = _
        rw [List.getElem?_set, if_neg (fun e => hj e.symm), a4]
      · have hz' : (gh.rows.set i v')[j]? = some z := hz
        rw [List.getElem?_set] at hz'
        rw [getD_set_if _ _ _ _ hi, getD_set_ifn _ _ _ _ hib]
        by_cases e : j = i
        · subst e
          rw [if_pos rfl, if_pos (by rw [a4]; exact hiv)] at hz'
          cases hz'
          rw [if_pos rfl, if_pos rfl]
          refine ⟨by rw [List.length_append, List.map_append]; exact s2, fun n hn => ?_, rfl⟩
          rcases List.mem_append.1 hn with hn | hn
          · exact r2 n hn
          · exact b2 n hn
        · rw [if_neg (fun e' => e e'.symm), a4] at hz'
          rw [if_neg e, if_neg e]
          obtain ⟨t1, t2, t3⟩ := a5 j z hz'
          have hjl := (List.getElem?_eq_some_iff.1 hz').1
          refine ⟨ownsRow_of_block t1 fun c hc => hnot c (hgl c (by rw [a7]; exact List.mem_append.2 (.inr (mem_row (by omega) t3 hc)))) fun ev => ?_, t2, t3⟩
          have hfl := (List.nodup_append.1 a8').2.1
          have c1 : c ∈ bs.getD j [] := by rw [← t3, hc]; simp
          have c2 : c ∈ bs.getD i [] := by rw [← r3, ev]; simp
          have hpw := (List.pairwise_flatten.1 hfl).2
          rw [List.getD_eq_getElem?_getD, List.getElem?_eq_getElem (by omega)] at c1 c2
          have hpw' := List.pairwise_iff_getElem.1 hpw
          rcases Nat.lt_or_gt_of_ne e with hlt | hlt
          · exact hpw' j i (by omega) hib hlt c c1 c c2 rfl
          · exact hpw' i j hib (by omega) hlt c c2 c c1 rfl
      · refine nodup_setrow a8' hib ?_ fun c hc => ?_
        · cases v'.ownBlock <;> simp
        · have hc' : v'.ownBlock = some c := by
            cases hvb : v'.ownBlock with
            | none => rw [hvb] at hc; simp at hc
            | some z => rw [hvb] at hc; simp at hc; rw [hc]
          rcases (hvo c hc').1 with h1 | h1
          · left; rw [← r3, h1]; simp
          · right; intro hm
            have := hgl c (by rw [a7]; exact hm)
            omega
    · have hr' : (gh.rows.set i v')[i]? = some v' := by rw [List.getElem?_set, if_pos rfl, if_pos (by rw [a4]; exact hiv)]
      exact RV.orow (g := g') (by simp [hhg]) hr'
    · refine ⟨s3.os, s3.tape, s3.output, s3.size, fun b hb => s3.block b (by have := hr.hb; omega) fun e => ?_⟩
      have := (hr.hn _ _ _ hg hs (by simp) b (by rw [a7]; exact List.mem_append.2 (.inr (hsub b e.symm)))).1
      omega

/-- A grown row goes back into its cell. -/
theorem l_store_pend {t : TypeId} [ht : TCell P t] {x y : Operand} {h i : Nat} {e e2 : TypeId} {xss : List (List Int)} (hx : AV.ev env x = .optr h i) (hs : os[h]? = some (.ob (pendOb e e2 xss i))) (hi : i < xss.length) (hy : AV.ev env y = .orow h i) :
    LOp P ⟨d, .store t x y, ty, pos, af, g⟩ env os .any env (os.set h (.sls e e2 xss)) := by
  intro base w gs tm hr
  have hxv := hr.ev x
  have hyv := hr.ev y
  rw [hx] at hxv
  rw [hy] at hyv
  generalize hv : Act.eval ⟨tm, []⟩ x = v at hxv
  generalize hu : Act.eval ⟨tm, []⟩ y = u at hyv
  cases hxv with
  | @optr _ _ gh hg =>
  cases hyv with
  | @orow _ _ gh2 _ hg2 hrow =>
    have egg : gh2 = gh := by rw [hg] at hg2; exact (Option.some.inj hg2).symm
    subst egg
    obtain ⟨cs, bs, mb, a1, a2, a3, a4, a5, a6, a7, a8, a9⟩ := hr.ho _ _ _ hg hs
    obtain ⟨r1, r2, r3⟩ := a6 i u hrow
    obtain ⟨ua, uc, eu⟩ := ownsRow_slice r1
    have hic : i < cs.length := by omega
    obtain ⟨b, cap, e1, e2', e3', e4⟩ := own_slice a1 (i := i) hic
    have emb : mb = [gh2.b] ∧ gh2.v.ownBlock = some gh2.b := by
      rcases a7 with ⟨c1, _⟩ | ⟨c1, c2⟩
      · rw [c1] at e2'; cases e2'
      · exact ⟨c2, c1⟩
    have eb : gh2.b = b := by rw [emb.2] at e2'; exact Option.some.inj e2'
    have hcell : w.cell? ⟨gh2.b, i, none⟩ = some cs[i] := by rw [eb, e3']; simp [hic]
    have a1' := a1
    rw [e1] at a1'
    have hst := a1'.stored i u
    have hgb : gh2.b ∈ gh2.bl := by rw [a8, emb.1]; simp
    have hap : ∀ c, c ≠ gh2.b → (w.setCell ⟨b, i, none⟩ u).heap[c]? = w.heap[c]? := fun c hc => heap_setCell_other w ⟨b, i, none⟩ c u (fun e' => hc (by rw [eb]; exact e'))
    have hother : ∀ c, c < w.heap.size → c ∉ gh2.bl → (w.setCell ⟨b, i, none⟩ u).heap[c]? = w.heap[c]? := fun c _ hcb => hap c fun e => hcb (e ▸ hgb)
    have erows : cs.set i u = gh2.rows := by
      apply List.ext_getElem?
      intro j
      rw [List.getElem?_set]
      by_cases ej : i = j
      · subst ej; rw [if_pos rfl, if_pos hic, hrow]
      · rw [if_neg ej]; exact (a5 j (fun e => ej e.symm)).symm
    refine ⟨undef, w.setCell ⟨b, i, none⟩ u, gs, .inr ⟨?_, rfl⟩, hr.upd hg hs trivial _ trivial hother hst.2.size fun kp => ?_, .any _, ?_⟩
    · have := run_store_cell (P := P) (t := t) (a := ⟨gh2.b, i, none⟩) hcell (by rw [eb]; exact e4) (v := u) (by rw [eu]; rfl) (by rw [eu]; rfl)
      rw [eb] at this hv
      simp only [execOp, hv, hu, Sem.run_bind, this, Result.andThen_ok, Sem.run_pure]
    · refine ⟨gh2.rows, bs, mb, ?_, a4, a3, rfl, fun j z hz => ?_, a7, a8, a9⟩
      · rw [← erows, List.length_set, e1]; exact hst.1
      · obtain ⟨t1, t2, t3⟩ := a6 j z hz
        have hjl := (List.getElem?_eq_some_iff.1 hz).1
        refine ⟨ownsRow_of_block t1 fun c hc => hap c fun ec => ?_, t2, t3⟩
        have hm := mem_row (bs := bs) (by omega) t3 hc
        rw [a8] at a9
        exact (List.nodup_append.1 a9).2.2 gh2.b (by rw [emb.1]; simp) c hm ec.symm
    · have hbb : base ≤ b := by rw [← eb]; exact (hr.hn _ _ _ hg hs (by simp) gh2.b hgb).1
      exact (Below.refl _ _).setCell (p := ⟨b, i, none⟩) hbb _
end

section
variable {P : Program} {env : Env} {os : List AO} {d : Option Tmp} {ty : TypeId} {pos : String} {af : Array Edge} {g : Option (Nat × Bool)} {wl : Bool}
theorem q_idx_pend {t e0 : TypeId} [ht : TSlice P t e0] [he : TCell P e0] {x y : Operand} {h k : Nat} {e e2 : TypeId} {xss : List (List Int)} {i : Int} (hx : AV.ev env x = .own h) (hs : os[h]? = some (.ob (pendOb e e2 xss k))) (hy : AV.ev env y = .i i) (h0 : 0 ≤ i) (h1 : i < xss.length) :
    QOp P wl ⟨d, .indexAddr t x y, ty, pos, af, g⟩ env os (.optr h i.toNat) :=
  .of_run fun _ w gs tm hr => by
    have hh := hr.ev x
    rw [hx] at hh
    generalize hv : Act.eval ⟨tm, []⟩ x = v at hh
    cases hh with
    | @own _ gh hg =>
      refine ⟨_, .optr hg, fun w' _ => ?_⟩
      obtain ⟨cap, e1⟩ : ∃ cap, gh.v = .slice (some ⟨gh.b, 0, none⟩) xss.length cap := by
        obtain ⟨cs, bs, mb, a1, a2, a3, a4, a5, a6, a7, _⟩ := hr.ho _ _ _ hg hs
        obtain ⟨b, cap, e1, e2, _⟩ := own_slice a1 (i := i.toNat) (by omega)
        have : gh.b = b := by
          rcases a7 with ⟨h1, _⟩ | ⟨h1, _⟩
          · rw [h1] at e2; cases e2
          · rw [h1] at e2; cases e2; rfl
        rw [this, ← a2]; exact ⟨cap, e1⟩
      obtain ⟨ie, hi, hs1⟩ := he.info
      have hrun := run_idx ht.und hi hs1 ⟨gh.b, 0, none⟩ xss.length cap i h0 h1 w'
      simp only [execOp, hv, e1, hr.evv hy, Sem.run_bind, hrun, add_none, Nat.zero_add, Result.andThen_ok, Sem.run_pure]
end
section
variable {P : Program} {env : Env} {os : List AO} {d : Tmp} {ty : TypeId} {pos : String} {af : Array Edge} {g : Option (Nat × Bool)} {l rest : List Oper} {K : APost} {q : Md}
theorem w_apporow {t2 e2' : TypeId} {bytes : Nat} [TSlice P t2 e2'] [TElem P e2' (.int .i64 0) bytes] {x y : Operand} {h i k : Nat} {e e2 e3 : TypeId} {xss : List (List Int)} {ys : List Int} (hx : evo env x = some (.orow h i)) (hs : os[h]? = some (.sls e e2 xss)) (he2 : e2 = e2')
    (hy : evo env y = some (.own k)) (hk : os[k]? = some (.sli e3 ys)) (hhk : (h == k) = false) (hi : i < xss.length) (hp : 0 < ys.length) (hb : ((xss.getD i []).length + ys.length) * bytes ≤ 140737488355328)
    (h' : AOps P .seq l rest K (Env.up (env.mp (AV.noRow h)) d (.orow h i)) (((os.map (AO.via (AV.noRow h) h)).set h (.ob (pendOb e e2 (xss.set i (xss.getD i [] ++ ys)) i))).set k .dead)) :
    AOps P .seq l (⟨some d, .call { callee := .builtin .append, args := #[x, y], argTypes := #[t2, t2] }, ty, pos, af, none⟩ :: rest) K env os := AOps.lo (l_append_orow (ev_of hx) hs hi he2 (ev_of hy) hk hhk hp hb) h'
theorem w_idxpend {t e0 : TypeId} [TSlice P t e0] [TCell P e0] {x y : Operand} {h k : Nat} {e e2 : TypeId} {xss : List (List Int)} {i : Int} (hw : wantedA l env ⟨some d, .indexAddr t x y, ty, pos, af, g⟩ = some true) (hx : evo env x = some (.own h)) (hs : os[h]? = some (.ob (pendOb e e2 xss k))) (hy : evo env y = some (.i i)) (h0 : 0 ≤ i) (h1 : i < xss.length)
    (h' : AOps P q l rest K (env.up d (.optr h i.toNat)) os) : AOps P q l (⟨some d, .indexAddr t x y, ty, pos, af, g⟩ :: rest) K env os := AOps.qo hw (q_idx_pend (ev_of hx) hs (ev_of hy) h0 h1) h'
theorem w_stpend {t : TypeId} [TCell P t] {x y : Operand} {h i j : Nat} {e e2 : TypeId} {xss : List (List Int)} (hx : evo env x = some (.optr h j)) (hs : os[h]? = some (.ob (pendOb e e2 xss i))) (hy : evo env y = some (.orow h i)) (hj : j = i) (hi : i < xss.length)
    (h' : AOps P .seq l rest K env (os.set h (.sls e e2 xss))) : AOps P .seq l (⟨none, .store t x y, ty, pos, af, none⟩ :: rest) K env os := AOps.so (l_store_pend (ev_of (by rw [← hj]; exact hx)) hs hi (ev_of hy)) h'
end
end Go.Proofs.Ytcolpjpppdmanaa
/-
  The neighbours of all vertices. Condition: edges of a forest of at most 40 vertices.
-/
namespace Go.Proofs.Ytcolpjpppdmanaa
open Go Go.RowKit
attribute [local irreducible] AWp AOps ResIs Ret1 QOp LOp COp AFnV AFn Imms LeE LeO
set_option maxHeartbeats 1000000
set_option linter.unusedSimpArgs false
set_option linter.unusedVariables false

/-- The neighbours of all vertices, as the edges A tell them. -/
def nbL (n : Nat) (A : List (List Int)) : List (List Int) := (List.range n).map fun (v : Nat) => nearE A (v : Nat)
theorem nbL_len (n : Nat) (A : List (List Int)) : (nbL n A).length = n := by simp [nbL]
theorem nbL_get {n : Nat} {A : List (List Int)} {v : Nat} (h : v < n) : (nbL n A).getD v [] = nearE A (v : Nat) := by
  unfold nbL; rw [List.getD_eq_getElem?_getD, List.getElem?_map, List.getElem?_range h]; rfl
theorem nearE_snoc (A : List (List Int)) (e : List Int) (v : Int) : nearE (A ++ [e]) v = nearE A v ++ ((if geti e 0 = v then [geti e 1] else []) ++ (if geti e 1 = v then [geti e 0] else [])) := by
  unfold nearE; rw [List.flatMap_append]; simp
theorem nearE_len (A : List (List Int)) (v : Int) : (nearE A v).length ≤ 2 * A.length := by
  induction A with
  | nil => simp [nearE]
  | cons e A ih =>
    have : nearE (e :: A) v = ((if geti e 0 = v then [geti e 1] else []) ++ (if geti e 1 = v then [geti e 0] else [])) ++ nearE A v := by simp [nearE]
    rw [this, List.length_append, List.length_append, List.length_cons]
    split <;> split <;> simp <;> omega
theorem nb_step {n : Nat} {A : List (List Int)} {e : List Int} (he : EIn n e) {R1 : List (List Int)} (h1 : R1 = (nbL n A).set (geti e 0).toNat ((nbL n A).getD (geti e 0).toNat [] ++ [geti e 1])) :
    R1.set (geti e 1).toNat (R1.getD (geti e 1).toNat [] ++ [geti e 0]) = nbL n (A ++ [e]) := by
  obtain ⟨a1, a2, a3, a4⟩ := he
  have l0 := nbL_len n A
  have l1 : R1.length = n := by rw [h1, List.length_set]; exact l0
  apply List.ext_getElem?
  intro v
  by_cases hv : v < n
  · have g0 : (nbL n (A ++ [e]))[v]? = some (nearE (A ++ [e]) (v : Nat)) := by
      unfold nbL; rw [List.getElem?_map, List.getElem?_range hv]; rfl
    have g1 : ∀ u : Nat, u < n → R1.getD u [] = if u = (geti e 0).toNat then nearE A (u : Nat) ++ [geti e 1] else nearE A (u : Nat) := by
      intro u hu
      rw [h1, getD_set_if _ _ _ _ (by omega)]
      split
      · subst_vars; rw [nbL_get (by omega)]
      · exact nbL_get hu
    have g2 : (R1.set (geti e 1).toNat (R1.getD (geti e 1).toNat [] ++ [geti e 0]))[v]? = some (if v = (geti e 1).toNat then R1.getD (geti e 1).toNat [] ++ [geti e 0] else R1.getD v []) := by
      rw [List.getElem?_set]
      by_cases ev : (geti e 1).toNat = v
      · subst ev; rw [if_pos rfl, if_pos (by omega), if_pos rfl]
      · rw [if_neg ev, if_neg (fun h => ev h.symm), List.getD_eq_getElem?_getD, List.getElem?_eq_getElem (by omega)]; rfl
    rw [g0, g2, nearE_snoc]
    congr 1
    rw [g1 _ (by omega), g1 _ hv]
    by_cases e1 : v = (geti e 1).toNat
    · subst e1
      rw [if_pos rfl, if_neg (by omega), if_neg (by omega), if_pos (by omega)]; rfl
    · rw [if_neg e1]
      by_cases e0 : v = (geti e 0).toNat
      · subst e0
        rw [if_pos rfl, if_pos (by omega), if_neg (by omega)]; simp
      · rw [if_neg e0, if_neg (by omega), if_neg (by omega)]; simp
  · rw [List.getElem?_eq_none (by rw [List.length_set]; omega), List.getElem?_eq_none (by rw [nbL_len]; omega)]

/-- A forest of at most 40 vertices. -/
structure GrF (W : List Int) (E : List (List Int)) : Prop where
  n : 1 ≤ W.length ∧ W.length ≤ 40
  w : ∀ v : Int, -1000 ≤ geti W v ∧ geti W v ≤ 1000
  fo : FoE W.length E
  e : E.length ≤ 40
theorem GrF.at {W : List Int} {E : List (List Int)} (h : GrF W E) (k : Nat) (hk : k < E.length) : EIn W.length (gets E (k : Nat)) := h.fo.row _ (gets_mem (by omega) (by omega))
/-- All neighbours. -/
def nbs (W : List Int) (E : List (List Int)) : List (List Int) := (List.range W.length).map fun (v : Nat) => nearL E (v : Nat)
theorem nbs_eq {W : List Int} {E : List (List Int)} (h : GrF W E) : nbL W.length E = nbs W E := by
  unfold nbL nbs
  refine List.map_congr_left fun v _ => nearE_eq h.fo.row h.fo.srt _
theorem nbs_get {W : List Int} {E : List (List Int)} {v : Nat} (h : v < W.length) : (nbs W E).getD v [] = nearL E (v : Nat) := by
  unfold nbs; rw [List.getD_eq_getElem?_getD, List.getElem?_map, List.getElem?_range h]; rfl
theorem near_len {W : List Int} {E : List (List Int)} (h : GrF W E) (v : Int) : (nearL E v).length ≤ 40 := by
  have := nd_len (n := W.length) (h.fo.fst.nd v) (fun x hx => (h.fo.fst.bnd v x hx).1)
  have := h.n; omega

set_option maxHeartbeats 8000000 in
theorem neighboursOf_c (W : List Int) (E : List (List Int)) (h : GrF W E) : AFn Try.prog 29 [.agg [.ints W, .intss E]] (IsIntss 24 2 (nbs W E)) := by
  have hn := h.n
  have hE := h.e
  (refine AFn.start Try.func29 Try.ntmps29 rfl (by kernel_rfl) fun hk => ?_; simp only [Env.start, enumF, List.length_cons, List.length_nil, Nat.reduceAdd, Nat.reduceSub, List.cons_append, List.nil_append])
  repeat' (first | (apply AOps.nil; try simp only [List.nil_append, List.cons_append, List.set_cons_zero, List.set_cons_succ, List.length_cons, List.length_nil, Nat.reduceAdd, AV.sh, AV.sh1, AV.sh0, AO.sh, List.map_cons, List.map_nil, Nat.zero_add, Nat.add_zero, setAll]) | (apply w_move; exact rfl; exact rfl) | (apply w_assign; exact rfl; exact rfl) | apply AWp.seq | apply AWp.region | apply AWp.block | (apply w_len; exact rfl; exact rfl; first | exact .ints _ | exact .intss _ | exact .sli rfl | exact .sls rfl | exact .slr rfl | exact .orow rfl | exact .nil) | omega | ((first | apply w_ld | apply w_fa); iterate 3 exact rfl) | ((apply w_boxa); iterate 2 exact rfl) | (apply w_ldb; iterate 5 exact rfl) | (apply w_mkr; exact rfl; exact rfl; rotate_left 3; exact rfl; rotate_left 1))
  have e0 : List.replicate (W.length : Int).toNat ([] : List Int) = nbL W.length (E.take 0) := by
    apply List.ext_getElem (by simp [nbL])
    intro i h1 h2
    simp [nbL, nearE]
  rw [e0]
  refine AWp.loop (ι := Nat) (fun k => ⟨62, [(3, .own 1), (13, .intss E), (14, .i E.length), (15, .i k)]⟩) (fun k => [.bx 32 [.ints W, .intss E], .sls 24 2 (nbL W.length (E.take k))]) (fun k => k ≤ E.length) (fun k => E.length - k) 0 (by omega) ⟨lee rfl (by (repeat (first | exact le_nil | refine le_eq rfl rfl ?_))), by (repeat (first | exact lo_nil | refine lo_eq rfl ?_)), rfl, rfl⟩ ?_
  rintro k k0
  have hl := nbL_len W.length (E.take k)
  by_cases hk : k < E.length
  · obtain ⟨a1, a2, a3, a4⟩ := h.at k hk
    have hst := fun R1 => nb_step (A := E.take k) (R1 := R1) (h.at k hk)
    have et : E.take k ++ [gets E (k : Nat)] = E.take (k + 1) := by rw [List.take_succ_eq_append_getElem hk]; simp [gets, hk]
    rw [et] at hst
    have q0 : ((nbL W.length (E.take k)).getD (geti (gets E (k : Nat)) 0).toNat []).length ≤ 80 := by
      rw [nbL_get (by omega)]
      have := nearE_len (E.take k) (((geti (gets E (k : Nat)) 0).toNat : Nat) : Int)
      rw [List.length_take] at this; omega
    have q1 : ((nbL W.length (E.take k)).getD (geti (gets E (k : Nat)) 1).toNat []).length ≤ 80 := by
      rw [nbL_get (by omega)]
      have := nearE_len (E.take k) (((geti (gets E (k : Nat)) 1).toNat : Nat) : Int)
      rw [List.length_take] at this; omega
    generalize nbL W.length (E.take k) = R at *
    repeat' (first | (apply AOps.nil; try simp only [List.nil_append, List.cons_append, List.set_cons_zero, List.set_cons_succ, List.length_cons, List.length_nil, Nat.reduceAdd, AV.sh, AV.sh1, AV.sh0, AO.sh, List.map_cons, List.map_nil, Nat.zero_add, Nat.add_zero, setAll]) | (apply w_move; exact rfl; exact rfl) | (apply w_assign; exact rfl; exact rfl) | apply AWp.seq | apply AWp.region | ((apply AWp.condP; exact rfl) <;> intro h) | apply AWp.block | apply AWp.exit | apply AWp.skip | (apply w_len; exact rfl; exact rfl; first | exact .ints _ | exact .intss _ | exact .sli rfl | exact .sls rfl | exact .slr rfl | exact .orow rfl | exact .nil) | omega | ((first | apply w_lss | apply w_idx | apply w_ld); iterate 3 exact rfl) | ((first | apply w_idxs | apply w_lds); iterate 3 exact rfl))
    generalize gets E (k : Nat) = e at *
    obtain ⟨R1, eR1⟩ : ∃ R1, R1 = R.set (geti e 0).toNat (R.getD (geti e 0).toNat [] ++ [geti e 1]) := ⟨_, rfl⟩
    have hR1 := hst R1 eR1
    have l1 : R1.length = W.length := by rw [eR1, List.length_set]; exact hl
    have q2 : (R1.getD (geti e 1).toNat []).length ≤ 81 := by
      rw [eR1, getD_set_if _ _ _ _ (by omega)]
      split
      · rw [List.length_append, List.length_singleton]; omega
      · omega
    have b0 : ((R.getD (geti e 0).toNat []).length + [geti e 1].length) * 8 ≤ 140737488355328 := by rw [List.length_singleton]; omega
    have b1 : ((R1.getD (geti e 1).toNat []).length + [geti e 0].length) * 8 ≤ 140737488355328 := by rw [List.length_singleton]; omega
    refine AWp.regionG [] (by kernel_rfl) (envC := ⟨62, [(3, .own 1), (5, .ints e), (13, .intss E), (14, .i E.length), (15, .i k)]⟩) (osC := [.bx 32 [.ints W, .intss E], .sls 24 2 R1]) rfl rfl ?_ ?_
    · rw [eR1]
      repeat' (first | (apply AOps.nil; try simp only [List.nil_append, List.cons_append, List.set_cons_zero, List.set_cons_succ, List.length_cons, List.length_nil, Nat.reduceAdd, AV.sh, AV.sh1, AV.sh0, AO.sh, List.map_cons, List.map_nil, Nat.zero_add, Nat.add_zero, setAll]) | (apply w_move; exact rfl; exact rfl) | (apply w_apporow; exact rfl; exact rfl; exact rfl; exact rfl; exact rfl; exact rfl; rotate_left 3; simp only [Env.mp, List.map_cons, List.map_nil, List.set_cons_zero, List.set_cons_succ, AV.kill, AV.kill1, AO.kill, AV.noRow, AV.noRow1, AO.via, reduceIte, Nat.reduceEqDiff, Nat.reduceLT, Env.up, Nat.zero_ne_one, Nat.one_ne_zero, Nat.reduceAdd, List.cons_append, List.nil_append]; rotate_left 3) | (apply w_idxpend; iterate 4 exact rfl) | (apply w_stpend; exact rfl; exact rfl; exact rfl; exact rfl; rotate_left 1; simp only [Env.mp, List.map_cons, List.map_nil, List.set_cons_zero, List.set_cons_succ, AV.kill, AV.kill1, AO.kill, AV.noRow, AV.noRow1, AO.via, reduceIte, Nat.reduceEqDiff, Nat.reduceLT, Env.up, Nat.zero_ne_one, Nat.one_ne_zero, Nat.reduceAdd, List.cons_append, List.nil_append]; rotate_left 1) | apply AllOfG.nil | (apply AllOfG.consQ; exact rfl; exact rfl) | (apply AllOfG.consS; exact rfl; exact rfl) | (apply AAnyG.takeW; exact rfl; exact rfl; kernel_rfl; kernel_rfl) | (apply AAnyG.takeL; exact rfl; exact rfl; kernel_rfl) | (apply AAnyG.all; exact rfl) | (apply AAnyG.done; exact rfl) | omega | ((first | apply w_idx | apply w_ld); iterate 3 exact rfl) | ((apply w_bs1); iterate 2 exact rfl) | (apply w_idxo; exact rfl; exact rfl; (exact .sls rfl); exact rfl) | (apply w_ldls; iterate 4 exact rfl) | (apply inI_of <;> omega) | (simp <;> omega))
      all_goals (apply Or.inl; refine ⟨lee rfl ?_, ?_, rfl, rfl⟩; (focus ((repeat (first | exact le_nil | refine le_eq rfl rfl ?_)); done)); (focus ((repeat (first | exact lo_nil | refine lo_eq rfl ?_)); done)))
    clear eR1 hst
    repeat' (apply AOps.nil; try simp only [List.nil_append, List.cons_append, List.set_cons_zero, List.set_cons_succ, List.length_cons, List.length_nil, Nat.reduceAdd, AV.sh, AV.sh1, AV.sh0, AO.sh, List.map_cons, List.map_nil, Nat.zero_add, Nat.add_zero, setAll])
    refine AWp.regionG [] (by kernel_rfl) (envC := ⟨62, [(3, .own 1), (13, .intss E), (14, .i E.length), (15, .i k)]⟩) (osC := [.bx 32 [.ints W, .intss E], .sls 24 2 (R1.set (geti e 1).toNat (R1.getD (geti e 1).toNat [] ++ [geti e 0]))]) rfl rfl ?_ ?_
    · repeat' (first | (apply AOps.nil; try simp only [List.nil_append, List.cons_append, List.set_cons_zero, List.set_cons_succ, List.length_cons, List.length_nil, Nat.reduceAdd, AV.sh, AV.sh1, AV.sh0, AO.sh, List.map_cons, List.map_nil, Nat.zero_add, Nat.add_zero, setAll]) | (apply w_move; exact rfl; exact rfl) | (apply w_apporow; exact rfl; exact rfl; exact rfl; exact rfl; exact rfl; exact rfl; rotate_left 3; simp only [Env.mp, List.map_cons, List.map_nil, List.set_cons_zero, List.set_cons_succ, AV.kill, AV.kill1, AO.kill, AV.noRow, AV.noRow1, AO.via, reduceIte, Nat.reduceEqDiff, Nat.reduceLT, Env.up, Nat.zero_ne_one, Nat.one_ne_zero, Nat.reduceAdd, List.cons_append, List.nil_append]; rotate_left 3) | (apply w_idxpend; iterate 4 exact rfl) | (apply w_stpend; exact rfl; exact rfl; exact rfl; exact rfl; rotate_left 1; simp only [Env.mp, List.map_cons, List.map_nil, List.set_cons_zero, List.set_cons_succ, AV.kill, AV.kill1, AO.kill, AV.noRow, AV.noRow1, AO.via, reduceIte, Nat.reduceEqDiff, Nat.reduceLT, Env.up, Nat.zero_ne_one, Nat.one_ne_zero, Nat.reduceAdd, List.cons_append, List.nil_append]; rotate_left 1) | apply AllOfG.nil | (apply AllOfG.consQ; exact rfl; exact rfl) | (apply AllOfG.consS; exact rfl; exact rfl) | (apply AAnyG.takeW; exact rfl; exact rfl; kernel_rfl; kernel_rfl) | (apply AAnyG.takeL; exact rfl; exact rfl; kernel_rfl) | (apply AAnyG.all; exact rfl) | (apply AAnyG.done; exact rfl) | omega | ((first | apply w_idx | apply w_ld); iterate 3 exact rfl) | ((apply w_bs1); iterate 2 exact rfl) | (apply w_idxo; exact rfl; exact rfl; (exact .sls rfl); exact rfl) | (apply w_ldls; iterate 4 exact rfl) | (apply inI_of <;> omega) | (simp <;> omega))
      all_goals (apply Or.inl; refine ⟨lee rfl ?_, ?_, rfl, rfl⟩; (focus ((repeat (first | exact le_nil | refine le_eq rfl rfl ?_)); done)); (focus ((repeat (first | exact lo_nil | refine lo_eq rfl ?_)); done)))
    repeat' (first | (apply AOps.nil; try simp only [List.nil_append, List.cons_append, List.set_cons_zero, List.set_cons_succ, List.length_cons, List.length_nil, Nat.reduceAdd, AV.sh, AV.sh1, AV.sh0, AO.sh, List.map_cons, List.map_nil, Nat.zero_add, Nat.add_zero, setAll]) | (apply w_move; exact rfl; exact rfl) | apply AWp.region | ((apply w_add); iterate 3 exact rfl) | (apply inI_of <;> omega))
    exact ⟨k + 1, by omega, by omega, ⟨lee rfl (by (repeat (first | exact le_nil | refine le_eq rfl rfl ?_))), by (repeat (first | exact lo_nil | refine lo_eq rfl ?_ | refine lo_eq (congrArg (AO.sls _ _) (hR1)) ?_)), rfl, rfl⟩⟩
  · have ek : k = E.length := by omega
    subst ek
    rw [List.take_length, nbs_eq h]
    rw [List.take_length, nbs_eq h] at hl
    have hs : ∀ v : Nat, v < W.length → AFnU Try.prog 41 [.ints ((nbs W E).getD (v : Int).toNat [])] [] (fun v os => v = .tuple #[] ∧ os = []) := fun v hv => by
      rw [Int.toNat_natCast, nbs_get hv]
      exact sort_s _ (srt_of (h.fo.fst.srt _)) (by have := near_len h (v : Nat); omega)
    generalize nbs W E = R at *
    repeat' (first | (apply AOps.nil; try simp only [List.nil_append, List.cons_append, List.set_cons_zero, List.set_cons_succ, List.length_cons, List.length_nil, Nat.reduceAdd, AV.sh, AV.sh1, AV.sh0, AO.sh, List.map_cons, List.map_nil, Nat.zero_add, Nat.add_zero, setAll]) | (apply w_move; exact rfl; exact rfl) | apply AWp.seq | apply AWp.region | ((apply AWp.condP; exact rfl) <;> intro h) | apply AWp.block | apply AWp.exit | apply AWp.skip | (apply w_len; exact rfl; exact rfl; first | exact .ints _ | exact .intss _ | exact .sli rfl | exact .sls rfl | exact .slr rfl | exact .orow rfl | exact .nil) | omega | ((apply w_lss); iterate 3 exact rfl))
    refine AWp.loop (ι := Nat) (fun v => ⟨62, [(3, .own 1), (52, .own 1), (53, .i W.length), (54, .i v)]⟩) (fun v => [.bx 32 [.ints W, .intss E], .sls 24 2 R]) (fun v => v ≤ W.length) (fun v => W.length - v) 0 (by omega) ⟨lee rfl (by (repeat (first | exact le_nil | refine le_eq rfl rfl ?_ | refine le_eq rfl (congrArg AV.i (by omega)) ?_))), by (repeat (first | exact lo_nil | refine lo_eq rfl ?_)), rfl, rfl⟩ ?_
    rintro v v0
    by_cases hv : v < W.length
    · have hsv := hs v hv
      repeat' (first | (apply AOps.nil; try simp only [List.nil_append, List.cons_append, List.set_cons_zero, List.set_cons_succ, List.length_cons, List.length_nil, Nat.reduceAdd, AV.sh, AV.sh1, AV.sh0, AO.sh, List.map_cons, List.map_nil, Nat.zero_add, Nat.add_zero, setAll]) | (apply w_move; exact rfl; exact rfl) | (apply w_assign; exact rfl; exact rfl) | apply AWp.seq | apply AWp.region | ((apply AWp.condP; exact rfl) <;> intro h) | apply AWp.block | apply AWp.ret | apply AWp.exit | apply AWp.skip | (apply w_callu [] (hsv); (exact handed0); (focus ((repeat (first | exact imu_nil | refine imu_cons rfl (.orow rfl (by decide)) ?_)); done)); rintro v os0 ⟨rfl, rfl⟩; try simp only [List.nil_append, List.cons_append, List.set_cons_zero, List.set_cons_succ, List.length_cons, List.length_nil, Nat.reduceAdd, AV.sh, AV.sh1, AV.sh0, AO.sh, List.map_cons, List.map_nil, Nat.zero_add, Nat.add_zero, setAll]) | omega | ((first | apply w_lss | apply w_add | apply w_idx | apply w_ld); iterate 3 exact rfl) | (apply w_idxo; exact rfl; exact rfl; (exact .sls rfl); exact rfl) | (apply w_ldls; iterate 4 exact rfl) | (apply inI_of <;> omega))
      exact ⟨v + 1, by omega, by omega, ⟨lee rfl (by (repeat (first | exact le_nil | refine le_eq rfl rfl ?_))), by (repeat (first | exact lo_nil | refine lo_eq rfl ?_)), rfl, rfl⟩⟩
    · repeat' (first | (apply AOps.nil; try simp only [List.nil_append, List.cons_append, List.set_cons_zero, List.set_cons_succ, List.length_cons, List.length_nil, Nat.reduceAdd, AV.sh, AV.sh1, AV.sh0, AO.sh, List.map_cons, List.map_nil, Nat.zero_add, Nat.add_zero, setAll]) | (apply w_move; exact rfl; exact rfl) | (apply w_assign; exact rfl; exact rfl) | apply AWp.seq | apply AWp.region | ((apply AWp.condP; exact rfl) <;> intro h) | apply AWp.block | apply AWp.ret | apply AWp.exit | apply AWp.skip | omega | ((apply w_lss); iterate 3 exact rfl))
      exact ⟨_, _, _, .v1 Try.results29 rfl, .sls rfl, rfl, rfl⟩
end Go.Proofs.Ytcolpjpppdmanaa
/-
  Whether an own slice is not nil; whether nil is not. No condition.
-/
namespace Go.Proofs.Ytcolpjpppdmanaa
open Go Go.RowKit
set_option linter.unusedVariables false
section
variable {P : Program} {env : Env} {os : List AO} {d : Option Tmp} {ty : TypeId} {pos : String} {af : Array Edge} {g : Option (Nat × Bool)} {wl : Bool}
theorem q_nenil0 {xt yt e : TypeId} [ht : TSlice P xt e] {x : Operand} (hx : AV.ev env x = .val (.slice none 0 0)) :
    QOp P wl ⟨d, .binOp .neq xt x (.const (.slice none 0 0)) yt, ty, pos, af, g⟩ env os (.b false) :=
  .of_run fun _ w gs tm hr => by
    have hv := hr.evv hx
    refine ⟨.bool false, .val _, fun w' _ => ?_⟩
    have hrun := run_neq_slice_nil_any (P := P) w' xt e none 0 0 0 0 ht.und
    have hg : eqGuard .neq xt x (.const (.slice none 0 0)) (.slice none 0 0) (.slice none 0 0) = pure () := by simp [go_sem]
    have hce : Act.eval ⟨tm, []⟩ (.const (.slice none 0 0)) = .slice none 0 0 := rfl
    simp only [execOp, hv, hce, hg, hrun, Sem.run_bind, Sem.run_pure, Result.andThen_ok]
    rfl
theorem q_nenil1 {xt yt e : TypeId} [ht : TSlice P xt e] {x : Operand} {h : Nat} {e' : TypeId} {xs : List Int} (hx : AV.ev env x = .own h) (hs : os[h]? = some (.sli e' xs)) (h1 : 0 < xs.length) :
    QOp P wl ⟨d, .binOp .neq xt x (.const (.slice none 0 0)) yt, ty, pos, af, g⟩ env os (.b true) :=
  .of_run fun _ w gs tm hr => by
    have hh := hr.ev x
    rw [hx] at hh
    generalize hv : Act.eval ⟨tm, []⟩ x = v at hh
    cases hh with
    | @own _ gh hg0 =>
      obtain ⟨hrow, _⟩ := hr.ho _ _ _ hg0 hs
      rcases hrow.2 with ⟨_, h0⟩ | ⟨b, cap, cur, e1, _⟩
      · omega
      refine ⟨.bool true, .val _, fun w' _ => ?_⟩
      have hrun := run_neq_slice_nil_any (P := P) w' xt e (some ⟨b, 0, none⟩) xs.length cap 0 0 ht.und
      have hg : eqGuard .neq xt x (.const (.slice none 0 0)) (.slice (some ⟨b, 0, none⟩) xs.length cap) (.slice none 0 0) = pure () := by simp [go_sem]
      have hce : Act.eval ⟨tm, []⟩ (.const (.slice none 0 0)) = .slice none 0 0 := rfl
      simp only [execOp, hv, e1, hce, hg, hrun, Sem.run_bind, Sem.run_pure, Result.andThen_ok]
      rfl
theorem q_eqnil0 {xt yt e : TypeId} [ht : TSlice P xt e] {x : Operand} (hx : AV.ev env x = .val (.slice none 0 0)) :
    QOp P wl ⟨d, .binOp .eql xt x (.const (.slice none 0 0)) yt, ty, pos, af, g⟩ env os (.b true) :=
  .of_run fun _ w gs tm hr => by
    have hv := hr.evv hx
    refine ⟨.bool true, .val _, fun w' _ => ?_⟩
    have hrun := Lib.run_eql_slice_nil (P := P) w' xt e none 0 0 0 0 ht.und
    have hg : eqGuard .eql xt x (.const (.slice none 0 0)) (.slice none 0 0) (.slice none 0 0) = pure () := by simp [go_sem]
    have hce : Act.eval ⟨tm, []⟩ (.const (.slice none 0 0)) = .slice none 0 0 := rfl
    simp only [execOp, hv, hce, hg, hrun, Sem.run_bind, Sem.run_pure, Result.andThen_ok]
    rfl
theorem q_eqnil1 {xt yt e : TypeId} [ht : TSlice P xt e] {x : Operand} {h : Nat} {e' : TypeId} {xs : List Int} (hx : AV.ev env x = .own h) (hs : os[h]? = some (.sli e' xs)) (h1 : 0 < xs.length) :
    QOp P wl ⟨d, .binOp .eql xt x (.const (.slice none 0 0)) yt, ty, pos, af, g⟩ env os (.b false) :=
  .of_run fun _ w gs tm hr => by
    have hh := hr.ev x
    rw [hx] at hh
    generalize hv : Act.eval ⟨tm, []⟩ x = v at hh
    cases hh with
    | @own _ gh hg0 =>
      obtain ⟨hrow, _⟩ := hr.ho _ _ _ hg0 hs
      rcases hrow.2 with ⟨_, h0⟩ | ⟨b, cap, cur, e1, _⟩
      · omega
      refine ⟨.bool false, .val _, fun w' _ => ?_⟩
      have hrun := Lib.run_eql_slice_nil (P := P) w' xt e (some ⟨b, 0, none⟩) xs.length cap 0 0 ht.und
      have hg : eqGuard .eql xt x (.const (.slice none 0 0)) (.slice (some ⟨b, 0, none⟩) xs.length cap) (.slice none 0 0) = pure () := by simp [go_sem]
      have hce : Act.eval ⟨tm, []⟩ (.const (.slice none 0 0)) = .slice none 0 0 := rfl
      simp only [execOp, hv, e1, hce, hg, hrun, Sem.run_bind, Sem.run_pure, Result.andThen_ok]
      rfl
end
section
variable {P : Program} {env : Env} {os : List AO} {d : Tmp} {ty : TypeId} {pos : String} {af : Array Edge} {g : Option (Nat × Bool)} {l rest : List Oper} {K : APost} {q : Md}
theorem w_nenil0 {xt yt e : TypeId} [TSlice P xt e] {x : Operand} (hw : wantedA l env ⟨some d, .binOp .neq xt x (.const (.slice none 0 0)) yt, ty, pos, af, g⟩ = some true) (hx : evo env x = some (.val (.slice none 0 0)))
    (h' : AOps P q l rest K (env.up d (.b false)) os) : AOps P q l (⟨some d, .binOp .neq xt x (.const (.slice none 0 0)) yt, ty, pos, af, g⟩ :: rest) K env os := AOps.qo hw (q_nenil0 (ev_of hx)) h'
theorem w_nenil1 {xt yt e : TypeId} [TSlice P xt e] {x : Operand} {h : Nat} {e' : TypeId} {xs : List Int} (hw : wantedA l env ⟨some d, .binOp .neq xt x (.const (.slice none 0 0)) yt, ty, pos, af, g⟩ = some true) (hx : evo env x = some (.own h)) (hs : os[h]? = some (.sli e' xs)) (h1 : 0 < xs.length)
    (h' : AOps P q l rest K (env.up d (.b true)) os) : AOps P q l (⟨some d, .binOp .neq xt x (.const (.slice none 0 0)) yt, ty, pos, af, g⟩ :: rest) K env os := AOps.qo hw (q_nenil1 (ev_of hx) hs h1) h'
theorem w_eqnil0 {xt yt e : TypeId} [TSlice P xt e] {x : Operand} (hw : wantedA l env ⟨some d, .binOp .eql xt x (.const (.slice none 0 0)) yt, ty, pos, af, g⟩ = some true) (hx : evo env x = some (.val (.slice none 0 0)))
    (h' : AOps P q l rest K (env.up d (.b true)) os) : AOps P q l (⟨some d, .binOp .eql xt x (.const (.slice none 0 0)) yt, ty, pos, af, g⟩ :: rest) K env os := AOps.qo hw (q_eqnil0 (ev_of hx)) h'
theorem w_eqnil1 {xt yt e : TypeId} [TSlice P xt e] {x : Operand} {h : Nat} {e' : TypeId} {xs : List Int} (hw : wantedA l env ⟨some d, .binOp .eql xt x (.const (.slice none 0 0)) yt, ty, pos, af, g⟩ = some true) (hx : evo env x = some (.own h)) (hs : os[h]? = some (.sli e' xs)) (h1 : 0 < xs.length)
    (h' : AOps P q l rest K (env.up d (.b false)) os) : AOps P q l (⟨some d, .binOp .eql xt x (.const (.slice none 0 0)) yt, ty, pos, af, g⟩ :: rest) K env os := AOps.qo hw (q_eqnil1 (ev_of hx) hs h1) h'
end
end Go.Proofs.Ytcolpjpppdmanaa
/-
  The search for a path, walked. Condition: a forest.
-/
namespace Go.Proofs.Ytcolpjpppdmanaa
open Go Go.RowKit
attribute [local irreducible] AWp AOps ResIs Ret1 QOp LOp COp AFnV AFn Imms LeE LeO
set_option maxHeartbeats 1000000
set_option linter.unusedSimpArgs false
set_option linter.unusedVariables false

/-- A path or nil. -/
def PfQ (T : TypeId) (res : Option (List Int)) (r : AV) (os : List AO) : Prop := match res with
  | none => r = .val (.slice none 0 0) ∧ os = []
  | some l => r = .own 0 ∧ os = [.sli T l]
theorem pfL_take {rec : Int → Option (List Int)} {i f : Int} {xs : List Int} {a : Nat} (ha : a < xs.length) (h : pfL rec i f (xs.take a) = none) : pfL rec i f (xs.take (a + 1)) = pfL rec i f [geti xs (a : Nat)] ∧ pfL rec i f xs = pfL rec i f (geti xs (a : Nat) :: xs.drop (a + 1)) := by
  have e : xs[a] = geti xs (a : Nat) := by simp [geti, ha]
  constructor
  · rw [List.take_succ_eq_append_getElem ha, pfL_app _ _ _ _ _ h, e]
  · conv => lhs; rw [← List.take_append_drop a xs]
    rw [pfL_app _ _ _ _ _ h, List.drop_eq_getElem_cons ha, e]
set_option maxHeartbeats 8000000 in
theorem pathFrom_c (W : List Int) (E : List (List Int)) (h : GrF W E) (k : Int) : ∀ (m : Nat) (i f : Int), Dp (nearL E) m i f → 0 ≤ i ∧ i < W.length → m ≤ 100 →
    AFn Try.prog 28 [.intss (nbs W E), .i i, .i k, .i f] (PfQ 2 (pf (nearL E) k m i f)) := by
  intro m
  induction m with
  | zero => intro i f hd; exact hd.elim
  | succ m ih =>
    intro i f hd hi hm
    have hWn := h.n
    obtain ⟨v, rfl⟩ : ∃ v : Nat, i = v := ⟨i.toNat, by omega⟩
    by_cases hik : (v : Int) = k
    · rw [pf, if_pos hik]
      (refine AFn.start Try.func28 Try.ntmps28 rfl (by kernel_rfl) fun hk => ?_; simp only [Env.start, enumF, List.length_cons, List.length_nil, Nat.reduceAdd, Nat.reduceSub, List.cons_append, List.nil_append])
      repeat' (first | (apply AOps.nil; try simp only [List.nil_append, List.cons_append, List.set_cons_zero, List.set_cons_succ, List.length_cons, List.length_nil, Nat.reduceAdd, AV.sh, AV.sh1, AV.sh0, AO.sh, List.map_cons, List.map_nil, Nat.zero_add, Nat.add_zero, setAll]) | (apply w_move; exact rfl; exact rfl) | (apply w_assign; exact rfl; exact rfl) | apply AWp.seq | apply AWp.region | ((apply AWp.condP; exact rfl) <;> intro h) | apply AWp.ret | apply AWp.skip | omega | ((apply w_eql); iterate 3 exact rfl) | ((apply w_bs1); iterate 2 exact rfl) | (apply inI_of <;> omega))
      all_goals exact ⟨_, _, _, .v1 Try.results28 rfl, .sli rfl, rfl, rfl⟩
    · rw [pf, if_neg hik]
      have hN : (nbs W E).length = W.length := by simp [nbs]
      have hg : gets (nbs W E) (v : Nat) = nearL E (v : Nat) := nbs_get (by omega)
      have hlen := near_len h (v : Nat)
      rw [← hg] at hlen
      rw [← hg]
      have hd2 : ∀ j ∈ gets (nbs W E) (v : Nat), j ≠ f → Dp (nearL E) m j (v : Nat) := by rw [hg]; exact hd
      have hrng : ∀ j ∈ gets (nbs W E) (v : Nat), 0 ≤ j ∧ j < W.length := by rw [hg]; exact fun j hj => (h.fo.fst.bnd _ _ hj).1
      (refine AFn.start Try.func28 Try.ntmps28 rfl (by kernel_rfl) fun hk => ?_; simp only [Env.start, enumF, List.length_cons, List.length_nil, Nat.reduceAdd, Nat.reduceSub, List.cons_append, List.nil_append])
      repeat' (first | (apply AOps.nil; try simp only [List.nil_append, List.cons_append, List.set_cons_zero, List.set_cons_succ, List.length_cons, List.length_nil, Nat.reduceAdd, AV.sh, AV.sh1, AV.sh0, AO.sh, List.map_cons, List.map_nil, Nat.zero_add, Nat.add_zero, setAll]) | (apply w_move; exact rfl; exact rfl) | (apply w_assign; exact rfl; exact rfl) | apply AWp.seq | apply AWp.region | ((apply AWp.condP; exact rfl) <;> intro h) | apply AWp.block | apply AWp.skip | (apply w_len; exact rfl; exact rfl; first | exact .ints _ | exact .intss _ | exact .sli rfl | exact .sls rfl | exact .slr rfl | exact .orow rfl | exact .nil) | omega | ((first | apply w_eql | apply w_idx | apply w_ld); iterate 3 exact rfl) | ((first | apply w_idxs | apply w_lds); iterate 3 exact rfl))
      refine AWp.loop (ι := Nat) (fun a => ⟨41, [(0, .intss (nbs W E)), (1, .i v), (2, .i k), (3, .i f), (20, .ints (gets (nbs W E) (v : Nat))), (21, .i (gets (nbs W E) (v : Nat)).length), (22, .i a)]⟩) (fun _ => []) (fun a => a ≤ (gets (nbs W E) (v : Nat)).length ∧ pfL (fun j => pf (nearL E) k m j (v : Nat)) (v : Nat) f ((gets (nbs W E) (v : Nat)).take a) = none) (fun a => (gets (nbs W E) (v : Nat)).length - a) 0 ⟨Nat.zero_le _, by simp [pfL]⟩ ⟨lee rfl (by (repeat (first | exact le_nil | refine le_eq rfl rfl ?_))), by (repeat (exact lo_nil)), rfl, rfl⟩ ?_
      rintro a ⟨a0, a1⟩
      by_cases ha : a < (gets (nbs W E) (v : Nat)).length
      · obtain ⟨t1, t2⟩ := pfL_take ha a1
        have hmem : geti (gets (nbs W E) (v : Nat)) (a : Nat) ∈ gets (nbs W E) (v : Nat) := geti_mem (by omega) (by omega)
        have hr := hrng _ hmem
        by_cases hj : geti (gets (nbs W E) (v : Nat)) (a : Nat) = f
        · rw [pfL, if_pos hj, pfL] at t1
          repeat' (first | (apply AOps.nil; try simp only [List.nil_append, List.cons_append, List.set_cons_zero, List.set_cons_succ, List.length_cons, List.length_nil, Nat.reduceAdd, AV.sh, AV.sh1, AV.sh0, AO.sh, List.map_cons, List.map_nil, Nat.zero_add, Nat.add_zero, setAll]) | (apply w_move; exact rfl; exact rfl) | (apply w_assign; exact rfl; exact rfl) | apply AWp.seq | apply AWp.region | ((apply AWp.condP; exact rfl) <;> intro h) | apply AWp.block | apply AWp.ret | apply AWp.exit | apply AWp.skip | omega | ((first | apply w_lss | apply w_eql | apply w_add | apply w_idx | apply w_ld); iterate 3 exact rfl) | (apply inI_of <;> omega))
          exact ⟨a + 1, ⟨by omega, t1⟩, by omega, ⟨lee rfl (by (repeat (first | exact le_nil | refine le_eq rfl rfl ?_))), by (repeat (exact lo_nil)), rfl, rfl⟩⟩
        · have hc := ih _ (v : Nat) (hd2 _ hmem hj) hr (by omega)
          rw [pfL, if_neg hj] at t1 t2
          cases e : pf (nearL E) k m (geti (gets (nbs W E) (v : Nat)) (a : Nat)) (v : Nat) with
          | none =>
            rw [e] at hc t1
            rw [pfL] at t1
            repeat' (first | (apply AOps.nil; try simp only [List.nil_append, List.cons_append, List.set_cons_zero, List.set_cons_succ, List.length_cons, List.length_nil, Nat.reduceAdd, AV.sh, AV.sh1, AV.sh0, AO.sh, List.map_cons, List.map_nil, Nat.zero_add, Nat.add_zero, setAll]) | (apply w_move; exact rfl; exact rfl) | (apply w_assign; exact rfl; exact rfl) | apply AWp.seq | apply AWp.region | ((apply AWp.condP; exact rfl) <;> intro h) | (apply AWp.condF; exact rfl) | apply AWp.block | apply AWp.ret | apply AWp.exit | apply AWp.skip | ((apply w_nenil0); iterate 2 exact rfl) | ((first | apply w_lss | apply w_eql | apply w_add | apply w_idx | apply w_ld); iterate 3 exact rfl) | (apply w_callm (hc); (focus ((repeat (first | exact im_nil | refine im_cons rfl (.val _) ?_ | refine im_cons rfl (.intss _) ?_)); done)); rintro r os0 ⟨rfl, rfl⟩; try simp only [List.nil_append, List.cons_append, List.set_cons_zero, List.set_cons_succ, List.length_cons, List.length_nil, Nat.reduceAdd, AV.sh, AV.sh1, AV.sh0, AO.sh, List.map_cons, List.map_nil, Nat.zero_add, Nat.add_zero, setAll]) | omega | (apply inI_of <;> omega))
            exact ⟨a + 1, ⟨by omega, t1⟩, by omega, ⟨lee rfl (by (repeat (first | exact le_nil | refine le_eq rfl rfl ?_))), by (repeat (exact lo_nil)), rfl, rfl⟩⟩
          | some l =>
            rw [e] at hc t2
            have hl := (pf_rw e).2.2
            have hl0 : 0 < l.length := by
              have := (pf_rw e).2.1
              cases l with
              | nil => cases this
              | cons a l => simp
            rw [t2]
            repeat' (first | (apply AOps.nil; try simp only [List.nil_append, List.cons_append, List.set_cons_zero, List.set_cons_succ, List.length_cons, List.length_nil, Nat.reduceAdd, AV.sh, AV.sh1, AV.sh0, AO.sh, List.map_cons, List.map_nil, Nat.zero_add, Nat.add_zero, setAll]) | (apply w_move; exact rfl; exact rfl) | (apply w_assign; exact rfl; exact rfl) | apply AWp.seq | apply AWp.region | ((apply AWp.condP; exact rfl) <;> intro h) | (apply AWp.condT; exact rfl) | apply AWp.block | apply AWp.ret | apply AWp.exit | apply AWp.skip | ((first | apply w_nenil0 | apply w_bs1); iterate 2 exact rfl) | ((first | apply w_nenil1 | apply w_lss | apply w_eql | apply w_add | apply w_idx | apply w_ld); iterate 3 exact rfl) | (apply w_callm (hc); (focus ((repeat (first | exact im_nil | refine im_cons rfl (.val _) ?_ | refine im_cons rfl (.intss _) ?_)); done)); rintro r os0 ⟨rfl, rfl⟩; try simp only [List.nil_append, List.cons_append, List.set_cons_zero, List.set_cons_succ, List.length_cons, List.length_nil, Nat.reduceAdd, AV.sh, AV.sh1, AV.sh0, AO.sh, List.map_cons, List.map_nil, Nat.zero_add, Nat.add_zero, setAll]) | omega | (apply w_app; exact rfl; exact rfl; exact rfl; exact rfl; (exact .sli rfl); rotate_left 1; simp only [Env.mp, List.map_cons, List.map_nil, List.set_cons_zero, List.set_cons_succ, AV.kill, AV.kill1, AO.kill, AV.noRow, AV.noRow1, AO.via, reduceIte, Nat.reduceEqDiff, Nat.reduceLT, Env.up, Nat.zero_ne_one, Nat.one_ne_zero, Nat.reduceAdd, List.cons_append, List.nil_append]; rotate_left 1) | (apply inI_of <;> omega) | (simp <;> omega))
            all_goals exact ⟨_, _, _, .v1 Try.results28 rfl, .sli rfl, rfl, rfl⟩
      · obtain rfl : a = (gets (nbs W E) (v : Nat)).length := by omega
        rw [List.take_length] at a1
        rw [a1]
        repeat' (first | (apply AOps.nil; try simp only [List.nil_append, List.cons_append, List.set_cons_zero, List.set_cons_succ, List.length_cons, List.length_nil, Nat.reduceAdd, AV.sh, AV.sh1, AV.sh0, AO.sh, List.map_cons, List.map_nil, Nat.zero_add, Nat.add_zero, setAll]) | (apply w_assign; exact rfl; exact rfl) | apply AWp.seq | apply AWp.region | ((apply AWp.condP; exact rfl) <;> intro h) | apply AWp.block | apply AWp.ret | apply AWp.exit | apply AWp.skip | omega | ((apply w_lss); iterate 3 exact rfl))
        all_goals exact ⟨_, _, _, .v1 Try.results28 rfl, .val _, rfl, rfl⟩
end Go.Proofs.Ytcolpjpppdmanaa
/-
  A search in depth finds the determinants of branches. No condition.
-/
namespace Go.Proofs.Ytcolpjpppdmanaa
open Go Go.RowKit

def WS.sn (s : WS) (x : Int) : Bool := s.s.getD x.toNat false
def WS.mark (s : WS) (v : Int) : WS := { s with s := s.s.set v.toNat true }
def WS.put (s : WS) (v p r : Int) : WS := { s with f := s.f.set v.toNat r, g := s.g.set v.toNat p }
def WS.big (s : WS) : WS := { s with l := true }
def WS.cnt (s : WS) : Nat := (s.s.filter fun b => !b).length
/-- The branches of a vertex, one after the other. -/
def lpF (vis : Int → WS → WS) : List Int → WS → Int → Int → WS × Int × Int
  | [], s, p, r => (s, p, r)
  | c :: cs, s, p, r =>
    if s.sn c = true then lpF vis cs s p r
    else if okS p r (geti (vis c s).f c) (geti (vis c s).g c) = true then lpF vis cs (vis c s) (p * geti (vis c s).f c) (r * geti (vis c s).f c - p * geti (vis c s).g c)
    else lpF vis cs (vis c s).big 0 0
def visF (W : List Int) (near : Int → List Int) : Nat → Int → WS → WS
  | 0, _, s => s
  | k + 1, v, s =>
    let t := lpF (visF W near k) (near v) (s.mark v) 1 (-geti W v)
    t.1.put v t.2.1 t.2.2

structure WOk (n : Nat) (s : WS) : Prop where
  lf : s.f.length = n
  lg : s.g.length = n
  ls : s.s.length = n
  bf : ∀ x ∈ s.f, inM x
  bg : ∀ x ∈ s.g, inM x
/-- Nothing that has been seen is forgotten. -/
structure WLe (s t : WS) : Prop where
  sn : ∀ x : Int, s.sn x = true → t.sn x = true
  cnt : t.cnt ≤ s.cnt
  l : s.l = true → t.l = true
theorem WLe.refl (s : WS) : WLe s s := ⟨fun _ h => h, Nat.le_refl _, fun h => h⟩
theorem WLe.trans {a b c : WS} (h1 : WLe a b) (h2 : WLe b c) : WLe a c := ⟨fun x h => h2.sn x (h1.sn x h), Nat.le_trans h2.cnt h1.cnt, fun h => h2.l (h1.l h)⟩
theorem sn_mark {n : Nat} {s : WS} (h : s.s.length = n) {v : Int} (hv : 0 ≤ v ∧ v < n) {x : Int} (hx : 0 ≤ x) : (s.mark v).sn x = if x = v then true else s.sn x := by
  unfold WS.mark WS.sn
  simp only [List.getD_eq_getElem?_getD, List.getElem?_set]
  by_cases e : x = v
  · subst e; rw [if_pos rfl, if_pos (by omega), if_pos rfl]; rfl
  · rw [if_neg (by omega), if_neg e]
theorem cnt_set : ∀ (l : List Bool) (i : Nat), i < l.length → l.getD i false = false → ((l.set i true).filter fun b => !b).length + 1 = (l.filter fun b => !b).length
  | [], i, h, _ => by simp at h
  | b :: l, 0, _, h => by
    have : b = false := h
    subst this
    simp
  | b :: l, i + 1, h, h2 => by
    have ih := cnt_set l i (by simpa using h) h2
    rw [List.set_cons_succ]
    cases b <;> simp <;> omega
theorem cnt_mark {n : Nat} {s : WS} (h : s.s.length = n) {v : Int} (hv : 0 ≤ v ∧ v < n) (hn : s.sn v = false) : (s.mark v).cnt + 1 = s.cnt :=
  cnt_set s.s v.toNat (by omega) hn
theorem cnt_pos {n : Nat} {s : WS} (h : s.s.length = n) {v : Int} (hv : 0 ≤ v ∧ v < n) (hn : s.sn v = false) : 1 ≤ s.cnt := by
  have := cnt_mark h hv hn; omega
theorem le_mark {n : Nat} {s : WS} (h : s.s.length = n) {v : Int} (hv : 0 ≤ v ∧ v < n) (hn : s.sn v = false) : WLe s (s.mark v) := by
  refine ⟨fun x hx => ?_, by have := cnt_mark h hv hn; omega, fun h => h⟩
  unfold WS.mark WS.sn at *
  simp only [List.getD_eq_getElem?_getD, List.getElem?_set] at *
  by_cases e : v.toNat = x.toNat
  · rw [if_pos e, if_pos (by omega)]; rfl
  · rw [if_neg e]; exact hx
theorem ok_mark {n : Nat} {s : WS} (h : WOk n s) (v : Int) : WOk n (s.mark v) := ⟨h.lf, h.lg, by simp [WS.mark, h.ls], h.bf, h.bg⟩
theorem ok_put {n : Nat} {s : WS} (h : WOk n s) (v : Int) {p r : Int} (hp : inM p) (hr : inM r) : WOk n (s.put v p r) := by
  refine ⟨by simp [WS.put, h.lf], by simp [WS.put, h.lg], h.ls, fun x hx => ?_, fun x hx => ?_⟩
  · rcases List.mem_or_eq_of_mem_set hx with hx | rfl
    · exact h.bf x hx
    · exact hr
  · rcases List.mem_or_eq_of_mem_set hx with hx | rfl
    · exact h.bg x hx
    · exact hp
theorem okS_in {p r f g : Int} (h : okS p r f g = true) : inM (p * f) ∧ inM (r * f - p * g) := by
  unfold okS at h
  simp only [Bool.and_eq_true, decide_eq_true_eq] at h
  exact ⟨tok_in h.1.2, h.2⟩
theorem inM0 : inM 0 := by unfold inM; omega

/-- The loop keeps what each visit keeps. -/
theorem lpF_ok {n : Nat} {vis : Int → WS → WS} (m : Nat) (hv : ∀ (c : Int) s, WOk n s → s.cnt ≤ m → 0 ≤ c ∧ c < n → s.sn c = false → WOk n (vis c s) ∧ WLe s (vis c s)) :
    ∀ (cs : List Int) (s : WS) (p r : Int), (∀ c ∈ cs, 0 ≤ c ∧ c < n) → WOk n s → s.cnt ≤ m → inM p → inM r →
      WOk n (lpF vis cs s p r).1 ∧ WLe s (lpF vis cs s p r).1 ∧ inM (lpF vis cs s p r).2.1 ∧ inM (lpF vis cs s p r).2.2
  | [], s, p, r, _, h, _, hp, hr => ⟨h, WLe.refl s, hp, hr⟩
  | c :: cs, s, p, r, hc, h, hm, hp, hr => by
    have hcs : ∀ c ∈ cs, 0 ≤ c ∧ c < n := fun x hx => hc x (by simp [hx])
    rw [lpF]
    by_cases h1 : s.sn c = true
    · rw [if_pos h1]; exact lpF_ok m hv cs s p r hcs h hm hp hr
    · rw [if_neg h1]
      obtain ⟨a1, a2⟩ := hv c s h hm (hc c (by simp)) (by simpa using h1)
      have a3 : (vis c s).cnt ≤ m := Nat.le_trans a2.cnt hm
      by_cases h2 : okS p r (geti (vis c s).f c) (geti (vis c s).g c) = true
      · rw [if_pos h2]
        obtain ⟨b1, b2, b3, b4⟩ := lpF_ok m hv cs (vis c s) _ _ hcs a1 a3 (okS_in h2).1 (okS_in h2).2
        exact ⟨b1, a2.trans b2, b3, b4⟩
      · rw [if_neg h2]
        obtain ⟨b1, b2, b3, b4⟩ := lpF_ok m hv cs (vis c s).big 0 0 hcs ⟨a1.lf, a1.lg, a1.ls, a1.bf, a1.bg⟩ a3 inM0 inM0
        exact ⟨b1, a2.trans ((show WLe (vis c s) (vis c s).big from ⟨fun _ h => h, Nat.le_refl _, fun _ => rfl⟩).trans b2), b3, b4⟩
theorem visF_ok {n : Nat} {W : List Int} {near : Int → List Int} (hW : ∀ v : Int, -1000 ≤ geti W v ∧ geti W v ≤ 1000) (hF : Fst n near) : ∀ (k : Nat) (v : Int) (s : WS), WOk n s → s.cnt ≤ k → 0 ≤ v ∧ v < n → s.sn v = false → WOk n (visF W near k v s) ∧ WLe s (visF W near k v s)
  | 0, v, s, h, hk, hv, hn => by have := cnt_pos h.ls hv hn; omega
  | k + 1, v, s, h, hk, hv, hn => by
    have hw := hW v
    have hm := cnt_mark h.ls hv hn
    obtain ⟨b1, b2, b3, b4⟩ := lpF_ok k (fun c t ht hc h1 h2 => visF_ok hW hF k c t ht hc h1 h2) (near v) (s.mark v) 1 (-geti W v) (fun c hc => (hF.bnd v c hc).1) (ok_mark h v) (by omega) (by unfold inM; omega) (by unfold inM; omega)
    exact ⟨ok_put b1 v b3 b4, (le_mark h.ls hv hn).trans (b2.trans ⟨fun _ h => h, Nat.le_refl _, fun h => h⟩)⟩

section
variable {n : Nat} {near : Int → List Int} {r : Int} {o p W : List Int}
/-- What a visit of v has done. -/
structure Done (n : Nat) (near : Int → List Int) (W : List Int) (r : Int) (o p : List Int) (D : Int → Prop) (s t : WS) : Prop where
  sn : ∀ x : Int, 0 ≤ x → (t.sn x = true ↔ s.sn x = true ∨ D x)
  fr : ∀ x : Int, 0 ≤ x → ¬ D x → geti t.f x = geti s.f x ∧ geti t.g x = geti s.g x
  vl : ∀ x : Int, D x → ∀ a b, FG n near W p x = some (a, b) → geti t.f x = b ∧ geti t.g x = a

/-- The visits of the children dn of v, after v was marked. -/
structure LpI (n : Nat) (near : Int → List Int) (W : List Int) (r : Int) (o p : List Int) (v : Int) (s : WS) (dn : List Int) (t : WS) (a b : Int) : Prop where
  sn : ∀ x : Int, 0 ≤ x → (t.sn x = true ↔ s.sn x = true ∨ x = v ∨ ∃ c ∈ dn, c ≠ geti p v ∧ Dsc r o p c x)
  fr : ∀ x : Int, 0 ≤ x → (¬ ∃ c ∈ dn, c ≠ geti p v ∧ Dsc r o p c x) → geti t.f x = geti s.f x ∧ geti t.g x = geti s.g x
  vl : ∀ x : Int, (∃ c ∈ dn, c ≠ geti p v ∧ Dsc r o p c x) → ∀ a b, FG n near W p x = some (a, b) → geti t.f x = b ∧ geti t.g x = a
  lg : t.l = true ↔ s.l = true ∨ (∃ x, (∃ c ∈ dn, c ≠ geti p v ∧ Dsc r o p c x) ∧ FG n near W p x = none) ∨ fO (FG n near W p) (dn.filter fun u => decide (u ≠ geti p v)) (1, -geti W v) = none
  pr : ∀ x y, fO (FG n near W p) (dn.filter fun u => decide (u ≠ geti p v)) (1, -geti W v) = some (x, y) → a = x ∧ b = y
  ok : WOk n t
  le : WLe (s.mark v) t
  ia : inM a
  ib : inM b

theorem lp_run (hF : Fst n near) (hW : ∀ v : Int, -1000 ≤ geti W v ∧ geti W v ≤ 1000) (h : Tr n near r o p) {v : Int} (hv : v ∈ o) {k : Nat} {s : WS} (hs : ∀ x, Dsc r o p v x → s.sn x = false) (hp : v ≠ r → s.sn (geti p v) = true) (hk : (s.mark v).cnt ≤ k)
    (hvis : ∀ c ∈ chl near p v, ∀ t : WS, WOk n t → t.cnt ≤ k → (∀ x, Dsc r o p c x → t.sn x = false) → t.sn v = true →
      Done n near W r o p (Dsc r o p c) t (visF W near k c t) ∧ ((visF W near k c t).l = true ↔ t.l = true ∨ ∃ x, Dsc r o p c x ∧ FG n near W p x = none)) :
    ∀ (rest dn : List Int) (t : WS) (a b : Int), near v = dn ++ rest → LpI n near W r o p v s dn t a b →
      LpI n near W r o p v s (near v) (lpF (visF W near k) rest t a b).1 (lpF (visF W near k) rest t a b).2.1 (lpF (visF W near k) rest t a b).2.2
  | [], dn, t, a, b, e, hI => by rw [List.append_nil] at e; rw [e]; exact hI
  | c :: rest, dn, t, a, b, e, hI => by
    have e' : near v = (dn ++ [c]) ++ rest := by rw [e]; simp
    have hcn : c ∈ near v := by rw [e]; simp
    obtain ⟨⟨c0, c1⟩, ⟨v0, v1⟩, hcv⟩ := hF.bnd v c hcn
    have hnd := hF.nd v
    rw [e] at hnd
    have hcd : c ∉ dn := fun hx => (List.nodup_append.1 hnd).2.2 c hx c (by simp) rfl
    have hdn : ∀ x ∈ dn, x ∈ near v := fun x hx => by rw [e]; simp [hx]
    rw [lpF]
    by_cases hup : c = geti p v
    · have hvr : v ≠ r := fun hh => by rw [hh, h.pr] at hup; omega
      have hseen : t.sn c = true := (hI.sn c c0).2 (.inl (by rw [hup]; exact hp hvr))
      rw [if_pos hseen]
      have hex : ∀ x, (∃ d ∈ dn ++ [c], d ≠ geti p v ∧ Dsc r o p d x) ↔ (∃ d ∈ dn, d ≠ geti p v ∧ Dsc r o p d x) := fun x => by
        constructor
        · rintro ⟨d, hd, h1, h2⟩
          rcases List.mem_append.1 hd with hd | hd
          · exact ⟨d, hd, h1, h2⟩
          · exact absurd ((List.mem_singleton.1 hd).trans hup) h1
        · rintro ⟨d, hd, h1, h2⟩; exact ⟨d, by simp [hd], h1, h2⟩
      have hfl : ((dn ++ [c]).filter fun u => decide (u ≠ geti p v)) = dn.filter fun u => decide (u ≠ geti p v) := by
        rw [List.filter_append, List.filter_cons_of_neg (by simpa using hup)]; simp
      refine lp_run hF hW h hv hs hp hk hvis rest _ t a b e' ⟨fun x hx => ?_, fun x hx hn => ?_, fun x hx => ?_, ?_, ?_, hI.ok, hI.le, hI.ia, hI.ib⟩
      · rw [hI.sn x hx, hex]
      · exact hI.fr x hx fun hh => hn ((hex x).2 hh)
      · exact hI.vl x ((hex x).1 hx)
      · rw [hI.lg, hfl]; simp only [hex]
      · rw [hfl]; exact hI.pr
    · have hc : c ∈ chl near p v := List.mem_filter.2 ⟨hcn, decide_eq_true hup⟩
      obtain ⟨_, _, c3, c4, c5⟩ := chl_mem h hv hc
      have hfree : ∀ x, Dsc r o p c x → t.sn x = false := by
        intro x hx
        have hx0 := h.rng x hx.mem
        cases hh : t.sn x with
        | false => rfl
        | true =>
          rcases (hI.sn x hx0.1).1 hh with h1 | h1 | ⟨d, hd, h1, h2⟩
          · rw [hs x (Dsc.child h hv hc hx)] at h1; cases h1
          · subst h1; exact absurd hx (Dsc.notup h hv hc)
          · have hd' : d ∈ chl near p v := List.mem_filter.2 ⟨hdn d hd, decide_eq_true h1⟩
            exact absurd (Dsc.disj h hv hd' hc h2 hx ▸ hd) hcd
      have hns : ¬ t.sn c = true := by rw [hfree c (.refl c3)]; simp
      rw [if_neg hns]
      have htk : t.cnt ≤ k := Nat.le_trans hI.le.cnt hk
      have htv : t.sn v = true := (hI.sn v v0).2 (.inr (.inl rfl))
      obtain ⟨D, hl⟩ := hvis c hc t hI.ok htk hfree htv
      obtain ⟨o1, o2⟩ := visF_ok hW hF k c t hI.ok htk ⟨c0, c1⟩ (hfree c (.refl c3))
      generalize visF W near k c t = u at *
      have hex : ∀ x, (∃ d ∈ dn ++ [c], d ≠ geti p v ∧ Dsc r o p d x) ↔ (∃ d ∈ dn, d ≠ geti p v ∧ Dsc r o p d x) ∨ Dsc r o p c x := fun x => by
        constructor
        · rintro ⟨d, hd, h1, h2⟩
          rcases List.mem_append.1 hd with hd | hd
          · exact .inl ⟨d, hd, h1, h2⟩
          · rw [List.mem_singleton.1 hd] at h2; exact .inr h2
        · rintro (⟨d, hd, h1, h2⟩ | h2)
          · exact ⟨d, by simp [hd], h1, h2⟩
          · exact ⟨c, by simp, hup, h2⟩
      have hfl : ((dn ++ [c]).filter fun u => decide (u ≠ geti p v)) = (dn.filter fun u => decide (u ≠ geti p v)) ++ [c] := by
        rw [List.filter_append, List.filter_cons_of_pos (by simpa using hup)]; simp
      have hdj : ∀ x, (∃ d ∈ dn, d ≠ geti p v ∧ Dsc r o p d x) → ¬ Dsc r o p c x := by
        rintro x ⟨d, hd, h1, h2⟩ hx
        exact hcd (Dsc.disj h hv (List.mem_filter.2 ⟨hdn d hd, decide_eq_true h1⟩) hc h2 hx ▸ hd)
      have snx : ∀ x : Int, 0 ≤ x → (u.sn x = true ↔ s.sn x = true ∨ x = v ∨ ∃ d ∈ dn ++ [c], d ≠ geti p v ∧ Dsc r o p d x) := fun x hx => by
        rw [D.sn x hx, hI.sn x hx, hex]
        constructor
        · rintro ((h1 | h1 | h1) | h1)
          · exact .inl h1
          · exact .inr (.inl h1)
          · exact .inr (.inr (.inl h1))
          · exact .inr (.inr (.inr h1))
        · rintro (h1 | h1 | h1 | h1)
          · exact .inl (.inl h1)
          · exact .inl (.inr (.inl h1))
          · exact .inl (.inr (.inr h1))
          · exact .inr h1
      have frx : ∀ x : Int, 0 ≤ x → (¬ ∃ d ∈ dn ++ [c], d ≠ geti p v ∧ Dsc r o p d x) → geti u.f x = geti s.f x ∧ geti u.g x = geti s.g x := fun x hx hn => by
        rw [hex] at hn
        have h1 := D.fr x hx fun hh => hn (.inr hh)
        have h2 := hI.fr x hx fun hh => hn (.inl hh)
        exact ⟨h1.1.trans h2.1, h1.2.trans h2.2⟩
      have vlx : ∀ x : Int, (∃ d ∈ dn ++ [c], d ≠ geti p v ∧ Dsc r o p d x) → ∀ a b, FG n near W p x = some (a, b) → geti u.f x = b ∧ geti u.g x = a := fun x hx a b hab => by
        rw [hex] at hx
        rcases hx with hx | hx
        · have h0 : 0 ≤ x := by obtain ⟨d, _, _, h2⟩ := hx; exact (h.rng x h2.mem).1
          have h1 := D.fr x h0 (hdj x hx)
          have h2 := hI.vl x hx a b hab
          exact ⟨h1.1.trans h2.1, h1.2.trans h2.2⟩
        · exact D.vl x hx a b hab
      have lgx : u.l = true ↔ s.l = true ∨ (∃ x, (∃ d ∈ dn ++ [c], d ≠ geti p v ∧ Dsc r o p d x) ∧ FG n near W p x = none) ∨ fO (FG n near W p) (dn.filter fun u => decide (u ≠ geti p v)) (1, -geti W v) = none := by
        rw [hl, hI.lg]
        simp only [hex]
        constructor
        · rintro ((h1 | ⟨x, h1, h2⟩ | h1) | ⟨x, h1, h2⟩)
          · exact .inl h1
          · exact .inr (.inl ⟨x, .inl h1, h2⟩)
          · exact .inr (.inr h1)
          · exact .inr (.inl ⟨x, .inr h1, h2⟩)
        · rintro (h1 | ⟨x, h1 | h1, h2⟩ | h1)
          · exact .inl (.inl h1)
          · exact .inl (.inr (.inl ⟨x, h1, h2⟩))
          · exact .inr ⟨x, h1, h2⟩
          · exact .inl (.inr (.inr h1))
      have fox := fO_app (FG n near W p) (dn.filter fun u => decide (u ≠ geti p v)) [c] (1, -geti W v)
      rw [← hfl] at fox
      by_cases hok : okS a b (geti u.f c) (geti u.g c) = true
      · rw [if_pos hok]
        refine lp_run hF hW h hv hs hp hk hvis rest _ u _ _ e' ⟨snx, frx, vlx, ?_, ?_, o1, hI.le.trans o2, (okS_in hok).1, (okS_in hok).2⟩
        · rw [lgx, fox]
          constructor
          · rintro (h1 | h1 | h1)
            · exact .inl h1
            · exact .inr (.inl h1)
            · exact .inr (.inr (by rw [h1]; rfl))
          · rintro (h1 | h1 | h1)
            · exact .inl h1
            · exact .inr (.inl h1)
            · cases hd : fO (FG n near W p) (dn.filter fun u => decide (u ≠ geti p v)) (1, -geti W v) with
              | none => exact .inr (.inr rfl)
              | some xy =>
                obtain ⟨x, y⟩ := xy
                rw [hd] at h1
                cases hfc : FG n near W p c with
                | none => exact .inr (.inl ⟨c, (hex c).2 (.inr (.refl c3)), hfc⟩)
                | some gf =>
                  obtain ⟨g, f⟩ := gf
                  obtain ⟨q1, q2⟩ := D.vl c (.refl c3) g f hfc
                  obtain ⟨q3, q4⟩ := hI.pr x y hd
                  subst q1 q2 q3 q4
                  simp only [Option.bind_some, fO, hfc, if_pos hok] at h1
                  cases h1
        · intro x y hxy
          rw [fox] at hxy
          cases hd : fO (FG n near W p) (dn.filter fun u => decide (u ≠ geti p v)) (1, -geti W v) with
          | none => rw [hd] at hxy; cases hxy
          | some xy =>
            obtain ⟨x', y'⟩ := xy
            rw [hd] at hxy
            obtain ⟨q3, q4⟩ := hI.pr x' y' hd
            cases hfc : FG n near W p c with
            | none => simp only [Option.bind_some, fO, hfc] at hxy; cases hxy
            | some gf =>
              obtain ⟨g, f⟩ := gf
              obtain ⟨q1, q2⟩ := D.vl c (.refl c3) g f hfc
              subst q1 q2 q3 q4
              simp only [Option.bind_some, fO, hfc, if_pos hok] at hxy
              simpa using hxy
      · rw [if_neg hok]
        have hnone : u.l = true ∨ fO (FG n near W p) ((dn ++ [c]).filter fun u => decide (u ≠ geti p v)) (1, -geti W v) = none := by
          rw [fox]
          cases hd : fO (FG n near W p) (dn.filter fun u => decide (u ≠ geti p v)) (1, -geti W v) with
          | none => exact .inr rfl
          | some xy =>
            obtain ⟨x', y'⟩ := xy
            obtain ⟨q3, q4⟩ := hI.pr x' y' hd
            cases hfc : FG n near W p c with
            | none => right; simp only [Option.bind_some, fO, hfc]
            | some gf =>
              obtain ⟨g, f⟩ := gf
              obtain ⟨q1, q2⟩ := D.vl c (.refl c3) g f hfc
              subst q1 q2 q3 q4
              right
              simp only [Option.bind_some, fO, hfc, if_neg hok]
        have hbn : ∀ x y, fO (FG n near W p) ((dn ++ [c]).filter fun u => decide (u ≠ geti p v)) (1, -geti W v) = some (x, y) → (0 : Int) = x ∧ (0 : Int) = y := by
          intro x y hxy
          exfalso
          rw [fox] at hxy
          cases hd : fO (FG n near W p) (dn.filter fun u => decide (u ≠ geti p v)) (1, -geti W v) with
          | none => rw [hd] at hxy; cases hxy
          | some xy =>
            obtain ⟨x', y'⟩ := xy
            rw [hd] at hxy
            obtain ⟨q3, q4⟩ := hI.pr x' y' hd
            cases hfc : FG n near W p c with
            | none => simp only [Option.bind_some, fO, hfc] at hxy; cases hxy
            | some gf =>
              obtain ⟨g, f⟩ := gf
              obtain ⟨q1, q2⟩ := D.vl c (.refl c3) g f hfc
              subst q1 q2 q3 q4
              simp only [Option.bind_some, fO, hfc, if_neg hok] at hxy
              cases hxy
        refine lp_run hF hW h hv hs hp hk hvis rest _ u.big 0 0 e' ⟨snx, frx, vlx, ?_, hbn, ⟨o1.lf, o1.lg, o1.ls, o1.bf, o1.bg⟩, hI.le.trans (o2.trans ⟨fun _ h => h, Nat.le_refl _, fun _ => rfl⟩), inM0, inM0⟩
        refine ⟨fun _ => ?_, fun _ => rfl⟩
        rcases hnone with h1 | h1
        · rcases lgx.1 h1 with h2 | h2 | h2
          · exact .inl h2
          · exact .inr (.inl h2)
          · exact .inr (.inr (by rw [fox, h2]; rfl))
        · exact .inr (.inr h1)
end
end Go.Proofs.Ytcolpjpppdmanaa
/-
  All trees of a forest, one after the other. No condition.
-/
namespace Go.Proofs.Ytcolpjpppdmanaa
open Go Go.RowKit

theorem geti_st' {p : List Int} {u v x : Int} {n : Nat} (hu : 0 ≤ u ∧ u < n) (hx : 0 ≤ x) (hl : p.length = n) : geti (p.set u.toNat v) x = if x = u then v else geti p x :=
  geti_st hu.1 hx (by rw [hl]; exact hu.2)
section
variable {n : Nat} {near : Int → List Int} {r : Int} {o p W : List Int}
theorem vis_run (hF : Fst n near) (hW : ∀ v : Int, -1000 ≤ geti W v ∧ geti W v ≤ 1000) (h : Tr n near r o p) {rk : Int → Nat} (k1 : ∀ x ∈ o, rk x < n) (k2 : ∀ x ∈ o, x ≠ r → geti p x ∈ o ∧ rk (geti p x) < rk x ∧ x ∈ near (geti p x)) :
    ∀ (m : Nat) (v : Int) (s : WS) (k : Nat), v ∈ o → n ≤ m + rk v → WOk n s → s.cnt ≤ k → (∀ x, Dsc r o p v x → s.sn x = false) → (v ≠ r → s.sn (geti p v) = true) →
      Done n near W r o p (Dsc r o p v) s (visF W near k v s) ∧ ((visF W near k v s).l = true ↔ s.l = true ∨ ∃ x, Dsc r o p v x ∧ FG n near W p x = none)
  | 0, v, s, k, hv, hm, _, _, _, _ => by have := k1 v hv; omega
  | m + 1, v, s, 0, hv, hm, hok, hk, hs, _ => by
    have := cnt_pos hok.ls (h.rng v hv) (hs v (.refl hv)); omega
  | m + 1, v, s, k + 1, hv, hm, hok, hk, hs, hp => by
    have hvr := h.rng v hv
    have hvn := hs v (.refl hv)
    have hcm := cnt_mark hok.ls hvr hvn
    have hw := hW v
    have hvis : ∀ c ∈ chl near p v, ∀ t : WS, WOk n t → t.cnt ≤ k → (∀ x, Dsc r o p c x → t.sn x = false) → t.sn v = true →
        Done n near W r o p (Dsc r o p c) t (visF W near k c t) ∧ ((visF W near k c t).l = true ↔ t.l = true ∨ ∃ x, Dsc r o p c x ∧ FG n near W p x = none) := by
      intro c hc t ht htk hfr htv
      obtain ⟨_, _, c3, c4, c5⟩ := chl_mem h hv hc
      have hr := (k2 c c3 c4).2.1
      rw [c5] at hr
      exact vis_run hF hW h k1 k2 m c t k c3 (by omega) ht htk hfr fun _ => by rw [c5]; exact htv
    have hsn0 : ∀ x : Int, 0 ≤ x → ((s.mark v).sn x = true ↔ s.sn x = true ∨ x = v ∨ ∃ c ∈ ([] : List Int), c ≠ geti p v ∧ Dsc r o p c x) := fun x hx => by
      rw [sn_mark hok.ls hvr hx]
      by_cases e : x = v
      · simp [e]
      · simp [e]
    have hI := lp_run hF hW h hv hs hp (k := k) (by omega) hvis (near v) [] (s.mark v) 1 (-geti W v) rfl
      ⟨hsn0, fun x _ _ => ⟨rfl, rfl⟩, fun x hx => (by obtain ⟨c, hc, _⟩ := hx; cases hc), (by simp [fO, WS.mark]), fun x y hxy => (by simp [fO] at hxy; exact ⟨hxy.1, hxy.2⟩), ok_mark hok v, WLe.refl _, (by unfold inM; omega), (by unfold inM; omega)⟩
    have ech : ((near v).filter fun u => decide (u ≠ geti p v)) = chl near p v := rfl
    have hfg := FG_eq (W := W) h hv
    show Done n near W r o p (Dsc r o p v) s ((lpF (visF W near k) (near v) (s.mark v) 1 (-geti W v)).1.put v (lpF (visF W near k) (near v) (s.mark v) 1 (-geti W v)).2.1 (lpF (visF W near k) (near v) (s.mark v) 1 (-geti W v)).2.2) ∧ ((lpF (visF W near k) (near v) (s.mark v) 1 (-geti W v)).1.l = true ↔ _)
    generalize lpF (visF W near k) (near v) (s.mark v) 1 (-geti W v) = T at *
    obtain ⟨t, a, b⟩ := T
    dsimp only at hI ⊢
    have hex : ∀ x, (∃ c ∈ near v, c ≠ geti p v ∧ Dsc r o p c x) ↔ ∃ c ∈ chl near p v, Dsc r o p c x := fun x => by
      constructor
      · rintro ⟨c, hc, h1, h2⟩; exact ⟨c, List.mem_filter.2 ⟨hc, decide_eq_true h1⟩, h2⟩
      · rintro ⟨c, hc, h2⟩
        obtain ⟨h3, h4⟩ := List.mem_filter.1 hc
        exact ⟨c, h3, of_decide_eq_true h4, h2⟩
    have hd : ∀ x, Dsc r o p v x ↔ x = v ∨ ∃ c ∈ near v, c ≠ geti p v ∧ Dsc r o p c x := fun x => by
      rw [hex]
      constructor
      · exact Dsc.cases h
      · rintro (rfl | ⟨c, hc, h2⟩)
        · exact .refl hv
        · exact Dsc.child h hv hc h2
    have hne : ∀ x, (∃ c ∈ near v, c ≠ geti p v ∧ Dsc r o p c x) → x ≠ v := fun x hx e => by
      subst e
      obtain ⟨c, hc, h2⟩ := (hex x).1 hx
      exact Dsc.notup h hv hc h2
    have pf : ∀ x : Int, 0 ≤ x → geti (t.put v a b).f x = (if x = v then b else geti t.f x) ∧ geti (t.put v a b).g x = (if x = v then a else geti t.g x) := fun x hx =>
      ⟨geti_st' hvr hx hI.ok.lf, geti_st' hvr hx hI.ok.lg⟩
    refine ⟨⟨fun x hx => ?_, fun x hx hn => ?_, fun x hx a' b' hab => ?_⟩, ?_⟩
    · show t.sn x = true ↔ _
      rw [hI.sn x hx, hd]
    · rw [hd] at hn
      obtain ⟨q1, q2⟩ := pf x hx
      rw [q1, q2, if_neg fun e => hn (.inl e), if_neg fun e => hn (.inl e)]
      exact hI.fr x hx fun hh => hn (.inr hh)
    · have hx0 := (h.rng x hx.mem).1
      obtain ⟨q1, q2⟩ := pf x hx0
      rcases (hd x).1 hx with e | hx
      · subst e
        rw [q1, q2, if_pos rfl, if_pos rfl]
        rw [hfg] at hab
        obtain ⟨q3, q4⟩ := hI.pr a' b' hab
        exact ⟨q4, q3⟩
      · rw [q1, q2, if_neg (hne x hx), if_neg (hne x hx)]
        exact hI.vl x hx a' b' hab
    · rw [hI.lg, ech, ← hfg]
      constructor
      · rintro (h1 | ⟨x, h1, h2⟩ | h1)
        · exact .inl h1
        · exact .inr ⟨x, (hd x).2 (.inr h1), h2⟩
        · exact .inr ⟨v, .refl hv, h1⟩
      · rintro (h1 | ⟨x, h1, h2⟩)
        · exact .inl h1
        · rcases (hd x).1 h1 with e | h1
          · subst e; exact .inr (.inr h2)
          · exact .inr (.inl ⟨x, h1, h2⟩)
end

/-! ### All roots -/
noncomputable def trC (n : Nat) (near : Int → List Int) (r : Int) : List Int × List Int :=
  open Classical in if h : ∃ q : List Int × List Int, Tr n near r q.1 q.2 then h.choose else ([], [])
theorem trC_ok {n : Nat} {near : Int → List Int} {r : Int} (hF : Fst n near) (hr : 0 ≤ r ∧ r < n) : Tr n near r (trC n near r).1 (trC n near r).2 := by
  obtain ⟨o, p, h⟩ := tree_ex hF hr
  have he : ∃ q : List Int × List Int, Tr n near r q.1 q.2 := ⟨(o, p), h⟩
  unfold trC
  rw [dif_pos he]
  exact he.choose_spec
/-- The roots among the first i vertices. -/
noncomputable def rts (n : Nat) (near : Int → List Int) : Nat → List Int
  | 0 => []
  | i + 1 => open Classical in if ∃ r ∈ rts n near i, (i : Int) ∈ (trC n near r).1 then rts n near i else rts n near i ++ [(i : Int)]
theorem rts_rng (n : Nat) (near : Int → List Int) : ∀ i, ∀ r ∈ rts n near i, 0 ≤ r ∧ r < i
  | 0, r, h => by cases h
  | i + 1, r, h => by
    rw [rts] at h
    split at h
    · have := rts_rng n near i r h; omega
    · rcases List.mem_append.1 h with h | h
      · have := rts_rng n near i r h; omega
      · rw [List.mem_singleton.1 h]; omega
theorem rts_len (n : Nat) (near : Int → List Int) : ∀ i, (rts n near i).length ≤ i
  | 0 => Nat.le_refl _
  | i + 1 => by
    have := rts_len n near i
    rw [rts]; split
    · omega
    · simp; omega
theorem rts_cov {n : Nat} {near : Int → List Int} (hF : Fst n near) : ∀ i, i ≤ n → ∀ x : Int, 0 ≤ x → x < i → ∃ r ∈ rts n near i, x ∈ (trC n near r).1
  | 0, _, x, h0, h1 => by omega
  | i + 1, hi, x, h0, h1 => by
    rw [rts]
    by_cases hx : x < i
    · obtain ⟨r, hr, hm⟩ := rts_cov hF i (by omega) x h0 hx
      split
      · exact ⟨r, hr, hm⟩
      · exact ⟨r, by simp [hr], hm⟩
    · have e : x = i := by omega
      subst e
      split
      · assumption
      · exact ⟨(i : Int), by simp, (trC_ok hF (r := (i : Int)) ⟨by omega, by omega⟩).rt⟩
theorem rts_dis {n : Nat} {near : Int → List Int} (hF : Fst n near) : ∀ i, i ≤ n → (rts n near i).Pairwise fun r r' => ∀ x, x ∈ (trC n near r).1 → x ∉ (trC n near r').1
  | 0, _ => List.Pairwise.nil
  | i + 1, hi => by
    have ih := rts_dis hF i (by omega)
    rw [rts]; split
    · exact ih
    · rename_i hn
      rw [List.pairwise_append]
      refine ⟨ih, by simp, fun r hr r' hr' x hx hx' => ?_⟩
      rw [List.mem_singleton.1 hr'] at hx'
      have h1 := rts_rng n near i r hr
      exact Tr.disj (trC_ok hF ⟨h1.1, by omega⟩) (trC_ok hF (r := (i : Int)) ⟨by omega, by omega⟩) hF (fun hh => hn ⟨r, hr, hh⟩) x hx' hx
theorem rts_uniq {n : Nat} {near : Int → List Int} (hF : Fst n near) {r r' : Int} (hr : r ∈ rts n near n) (hr' : r' ∈ rts n near n) {x : Int} (hx : x ∈ (trC n near r).1) (hx' : x ∈ (trC n near r').1) : r = r' := by
  have hd := rts_dis hF n (Nat.le_refl _)
  apply Classical.byContradiction
  intro hne
  have key : ∀ l : List Int, (l.Pairwise fun r r' => ∀ x, x ∈ (trC n near r).1 → x ∉ (trC n near r').1) → r ∈ l → r' ∈ l → False := by
    intro l
    induction l with
    | nil => intro _ h _; cases h
    | cons a l ih =>
      intro hp h1 h2
      obtain ⟨p1, p2⟩ := List.pairwise_cons.1 hp
      rcases List.mem_cons.1 h1 with e1 | g1
      · rcases List.mem_cons.1 h2 with e2 | g2
        · exact hne (e1.trans e2.symm)
        · exact p1 r' g2 x (e1 ▸ hx) hx'
      · rcases List.mem_cons.1 h2 with e2 | g2
        · exact p1 r g1 x (e2 ▸ hx') hx
        · exact ih p2 g1 g2
  exact key _ hd hr hr'

/-! ### What all branches have -/
/-- No number is too large. -/
def bdOk (n : Nat) (near : Int → List Int) (W : List Int) : Prop := ∀ r ∈ rts n near n, ∀ x ∈ (trC n near r).1, FG n near W (trC n near r).2 x ≠ none
noncomputable def rootOf (n : Nat) (near : Int → List Int) (x : Int) : Int := open Classical in if h : ∃ r, r ∈ rts n near n ∧ x ∈ (trC n near r).1 then h.choose else 0
theorem rootOf_ok {n : Nat} {near : Int → List Int} (hF : Fst n near) {x : Int} (hx : 0 ≤ x ∧ x < n) : rootOf n near x ∈ rts n near n ∧ x ∈ (trC n near (rootOf n near x)).1 := by
  obtain ⟨r, h1, h2⟩ := rts_cov hF n (Nat.le_refl _) x hx.1 hx.2
  have he : ∃ r, r ∈ rts n near n ∧ x ∈ (trC n near r).1 := ⟨r, h1, h2⟩
  unfold rootOf
  rw [dif_pos he]
  exact he.choose_spec
noncomputable def bdV (n : Nat) (near : Int → List Int) (W : List Int) (x : Int) : Option (Int × Int) := FG n near W (trC n near (rootOf n near x)).2 x
theorem bdV_eq {n : Nat} {near : Int → List Int} {W : List Int} (hF : Fst n near) {r x : Int} (hr : r ∈ rts n near n) (hx : x ∈ (trC n near r).1) : bdV n near W x = FG n near W (trC n near r).2 x := by
  have h1 := rts_rng n near n r hr
  have h2 := (trC_ok hF h1).rng x hx
  obtain ⟨h3, h4⟩ := rootOf_ok hF h2
  have := rts_uniq hF h3 hr h4 hx
  unfold bdV
  rw [this]
noncomputable def bdF (n : Nat) (near : Int → List Int) (W : List Int) : List Int := (List.range n).map fun (x : Nat) => ((bdV n near W (x : Nat)).getD (0, 0)).2
noncomputable def bdG (n : Nat) (near : Int → List Int) (W : List Int) : List Int := (List.range n).map fun (x : Nat) => ((bdV n near W (x : Nat)).getD (0, 0)).1
theorem list_eq {n : Nat} {l : List Int} {F : Int → Int} (hl : l.length = n) (h : ∀ x : Int, 0 ≤ x → x < n → geti l x = F x) : l = (List.range n).map fun (x : Nat) => F (x : Nat) := by
  apply List.ext_getElem (by simp [hl])
  intro i h1 h2
  have := h (i : Nat) (by omega) (by omega)
  simp [geti, List.getD_eq_getElem?_getD, List.getElem?_eq_getElem h1] at this
  simp [this]

/-! ### The program's run -/
def WS.init (n : Nat) : WS := ⟨List.replicate n 0, List.replicate n 0, List.replicate n false, false⟩
def brF (n : Nat) (near : Int → List Int) (W : List Int) : Nat → WS × List Int
  | 0 => (WS.init n, [])
  | i + 1 => if (brF n near W i).1.sn (i : Nat) = true then brF n near W i else (visF W near n (i : Nat) (brF n near W i).1, (brF n near W i).2 ++ [(i : Int)])
structure BrI (n : Nat) (near : Int → List Int) (W : List Int) (i : Nat) (s : WS) (rs : List Int) : Prop where
  rs : rs = rts n near i
  sn : ∀ x : Int, 0 ≤ x → (s.sn x = true ↔ ∃ r ∈ rts n near i, x ∈ (trC n near r).1)
  vl : ∀ r ∈ rts n near i, ∀ x ∈ (trC n near r).1, ∀ a b, FG n near W (trC n near r).2 x = some (a, b) → geti s.f x = b ∧ geti s.g x = a
  lg : s.l = true ↔ ∃ r ∈ rts n near i, ∃ x ∈ (trC n near r).1, FG n near W (trC n near r).2 x = none
  ok : WOk n s
  cnt : s.cnt ≤ n
theorem br_init (n : Nat) (near : Int → List Int) (W : List Int) : BrI n near W 0 (WS.init n) [] := by
  refine ⟨rfl, fun x hx => ?_, fun r hr => (by cases hr), ?_, ⟨(by simp [WS.init]), (by simp [WS.init]), (by simp [WS.init]), fun x hx => ?_, fun x hx => ?_⟩, ?_⟩
  · simp only [WS.sn, WS.init, rts, List.getD_eq_getElem?_getD, List.getElem?_replicate]
    split <;> simp
  · simp [WS.init, rts]
  · simp [WS.init] at hx; rw [hx.2]; exact inM0
  · simp [WS.init] at hx; rw [hx.2]; exact inM0
  · simp [WS.cnt, WS.init]
theorem br_run {n : Nat} {near : Int → List Int} {W : List Int} (hF : Fst n near) (hW : ∀ v : Int, -1000 ≤ geti W v ∧ geti W v ≤ 1000) : ∀ i, i ≤ n → BrI n near W i (brF n near W i).1 (brF n near W i).2
  | 0, _ => br_init n near W
  | i + 1, hi => by
    have ih := br_run hF hW i (by omega)
    have hsi := ih.sn (i : Nat) (by omega)
    rw [brF]
    by_cases hs : (brF n near W i).1.sn (i : Nat) = true
    · rw [if_pos hs]
      have er : rts n near (i + 1) = rts n near i := by rw [rts, if_pos (hsi.1 hs)]
      exact ⟨by rw [er]; exact ih.rs, by rw [er]; exact ih.sn, by rw [er]; exact ih.vl, by rw [er]; exact ih.lg, ih.ok, ih.cnt⟩
    · rw [if_neg hs]
      have hno : ¬ ∃ r ∈ rts n near i, (i : Int) ∈ (trC n near r).1 := fun hh => hs (hsi.2 hh)
      have er : rts n near (i + 1) = rts n near i ++ [(i : Int)] := by rw [rts, if_neg hno]
      have hT := trC_ok hF (r := (i : Int)) ⟨by omega, by omega⟩
      have hfree : ∀ x, Dsc (i : Int) (trC n near (i : Nat)).1 (trC n near (i : Nat)).2 (i : Nat) x → (brF n near W i).1.sn x = false := by
        intro x hx
        have hx0 := (hT.rng x hx.mem).1
        cases hh : (brF n near W i).1.sn x with
        | false => rfl
        | true =>
          obtain ⟨r, hr, hxr⟩ := (ih.sn x hx0).1 hh
          have h1 := rts_rng n near i r hr
          exact absurd hxr (Tr.disj (trC_ok hF ⟨h1.1, by omega⟩) hT hF (fun h2 => hno ⟨r, hr, h2⟩) x hx.mem)
      obtain ⟨k, k1, k2⟩ := hT.rank
      obtain ⟨D, hl⟩ := vis_run hF hW hT k1 k2 n (i : Nat) (brF n near W i).1 n hT.rt (by omega) ih.ok ih.cnt hfree (fun h => absurd rfl h)
      obtain ⟨o1, o2⟩ := visF_ok hW hF n (i : Nat) (brF n near W i).1 ih.ok ih.cnt ⟨by omega, by omega⟩ (by simpa using hs)
      have hall : ∀ x, Dsc (i : Int) (trC n near (i : Nat)).1 (trC n near (i : Nat)).2 (i : Nat) x ↔ x ∈ (trC n near (i : Nat)).1 := fun x => ⟨Dsc.mem, Dsc.all hT⟩
      refine ⟨by rw [er, ih.rs], fun x hx => ?_, fun r hr x hx a b hab => ?_, ?_, o1, Nat.le_trans o2.cnt ih.cnt⟩
      · rw [D.sn x hx, ih.sn x hx, hall, er]
        simp only [List.mem_append, List.mem_singleton]
        constructor
        · rintro (⟨r, h1, h2⟩ | h1)
          · exact ⟨r, .inl h1, h2⟩
          · exact ⟨_, .inr rfl, h1⟩
        · rintro ⟨r, h1 | h1, h2⟩
          · exact .inl ⟨r, h1, h2⟩
          · rw [h1] at h2; exact .inr h2
      · rw [er] at hr
        rcases List.mem_append.1 hr with hr | hr
        · have h1 := rts_rng n near i r hr
          have hxT := trC_ok hF (r := r) ⟨h1.1, by omega⟩
          have hnd : ¬ Dsc (i : Int) (trC n near (i : Nat)).1 (trC n near (i : Nat)).2 (i : Nat) x := fun hh =>
            Tr.disj hxT hT hF (fun h2 => hno ⟨r, hr, h2⟩) x hh.mem hx
          obtain ⟨q1, q2⟩ := D.fr x (hxT.rng x hx).1 hnd
          obtain ⟨q3, q4⟩ := ih.vl r hr x hx a b hab
          exact ⟨q1.trans q3, q2.trans q4⟩
        · rw [List.mem_singleton.1 hr] at hx hab
          exact D.vl x ((hall x).2 hx) a b hab
      · rw [hl, ih.lg, er]
        simp only [List.mem_append, List.mem_singleton, hall]
        constructor
        · rintro (⟨r, h1, h2⟩ | h1)
          · exact ⟨r, .inl h1, h2⟩
          · exact ⟨_, .inr rfl, h1⟩
        · rintro ⟨r, h1 | h1, h2⟩
          · exact .inl ⟨r, h1, h2⟩
          · rw [h1] at h2; exact .inr h2
/-- What the program's run leaves. -/
theorem br_end {n : Nat} {near : Int → List Int} {W : List Int} (hF : Fst n near) (hW : ∀ v : Int, -1000 ≤ geti W v ∧ geti W v ≤ 1000) :
    (brF n near W n).2 = rts n near n ∧ ((brF n near W n).1.l = true ↔ ¬ bdOk n near W) ∧ (bdOk n near W → (brF n near W n).1.f = bdF n near W ∧ (brF n near W n).1.g = bdG n near W) := by
  have h := br_run hF hW n (Nat.le_refl _)
  refine ⟨h.rs, ?_, fun hok => ⟨?_, ?_⟩⟩
  · rw [h.lg]
    unfold bdOk
    constructor
    · rintro ⟨r, hr, x, hx, hn⟩ hh
      exact hh r hr x hx hn
    · intro hn
      apply Classical.byContradiction
      intro h2
      exact hn fun r hr x hx h3 => h2 ⟨r, hr, x, hx, h3⟩
  · refine list_eq (F := fun x => ((bdV n near W x).getD (0, 0)).2) h.ok.lf fun x h0 h1 => ?_
    obtain ⟨h3, h4⟩ := rootOf_ok hF ⟨h0, h1⟩
    rw [bdV_eq hF h3 h4]
    cases hc : FG n near W (trC n near (rootOf n near x)).2 x with
    | none => exact absurd hc (hok _ h3 x h4)
    | some ab => exact (h.vl _ h3 x h4 ab.1 ab.2 hc).1
  · refine list_eq (F := fun x => ((bdV n near W x).getD (0, 0)).1) h.ok.lg fun x h0 h1 => ?_
    obtain ⟨h3, h4⟩ := rootOf_ok hF ⟨h0, h1⟩
    rw [bdV_eq hF h3 h4]
    cases hc : FG n near W (trC n near (rootOf n near x)).2 x with
    | none => exact absurd hc (hok _ h3 x h4)
    | some ab => exact (h.vl _ h3 x h4 ab.1 ab.2 hc).2
end Go.Proofs.Ytcolpjpppdmanaa
/-
  Neighbours and trees, walked: the reference. Condition: a forest of at most 40 vertices.
-/
namespace Go.Proofs.Ytcolpjpppdmanaa
open Go Go.RowKit
attribute [local irreducible] AWp AOps ResIs Ret1 QOp LOp COp AFnV AFn Imms LeE LeO
set_option maxHeartbeats 1000000
set_option linter.unusedSimpArgs false
set_option linter.unusedVariables false

theorem all_nil' {α : Type} {p : α → Prop} : ∀ x ∈ ([] : List α), p x := fun _ h => by cases h
theorem all_cons' {α : Type} {p : α → Prop} {a : α} {l : List α} (h : p a) (hs : ∀ x ∈ l, p x) : ∀ x ∈ a :: l, p x := fun x hx => by
  rcases List.mem_cons.1 hx with rfl | hx
  · exact h
  · exact hs x hx
def nr1 (E : List (List Int)) (v : Int) : List Int := (E.filter fun e => decide (geti e 1 = v)).map fun e => geti e 0
def nr0 (E : List (List Int)) (v : Int) : List Int := (E.filter fun e => decide (geti e 0 = v)).map fun e => geti e 1
theorem near_cut (E : List (List Int)) (v : Int) : nearL E v = nr1 E v ++ nr0 E v := rfl
theorem nr1_len (E : List (List Int)) (v : Int) : (nr1 E v).length ≤ E.length := by
  unfold nr1; rw [List.length_map]; exact List.length_filter_le _ _
theorem nr0_len (E : List (List Int)) (v : Int) : (nr0 E v).length ≤ E.length := by
  unfold nr0; rw [List.length_map]; exact List.length_filter_le _ _
theorem nr1_snoc {E : List (List Int)} {k : Nat} (h : k < E.length) (v : Int) : nr1 (E.take (k + 1)) v = nr1 (E.take k) v ++ (if geti (gets E (k : Nat)) 1 = v then [geti (gets E (k : Nat)) 0] else []) := by
  have e : E[k] = gets E (k : Nat) := by simp [gets, h]
  unfold nr1
  rw [List.take_succ_eq_append_getElem h, List.filter_append, List.map_append, e]
  congr 1
  by_cases hc : geti (gets E (k : Nat)) 1 = v
  · rw [if_pos hc, List.filter_cons_of_pos (by exact decide_eq_true hc)]; rfl
  · rw [if_neg hc, List.filter_cons_of_neg (by simpa using hc)]; rfl
theorem nr0_snoc {E : List (List Int)} {k : Nat} (h : k < E.length) (v : Int) : nr0 (E.take (k + 1)) v = nr0 (E.take k) v ++ (if geti (gets E (k : Nat)) 0 = v then [geti (gets E (k : Nat)) 1] else []) := by
  have e : E[k] = gets E (k : Nat) := by simp [gets, h]
  unfold nr0
  rw [List.take_succ_eq_append_getElem h, List.filter_append, List.map_append, e]
  congr 1
  by_cases hc : geti (gets E (k : Nat)) 0 = v
  · rw [if_pos hc, List.filter_cons_of_pos (by exact decide_eq_true hc)]; rfl
  · rw [if_neg hc, List.filter_cons_of_neg (by simpa using hc)]; rfl

set_option maxHeartbeats 16000000 in
theorem l11Near_c (W : List Int) (E : List (List Int)) (h : GrF W E) (v : Int) : AFn Try.prog 52 [.agg [.ints W, .intss E], .i v] (IsInts 2 (nearL E v)) := by
  have hn := h.n
  have hE := h.e
  have hat := h.at
  (refine AFn.start Try.func52 Try.ntmps52 rfl (by kernel_rfl) fun hk => ?_; simp only [Env.start, enumF, List.length_cons, List.length_nil, Nat.reduceAdd, Nat.reduceSub, List.cons_append, List.nil_append])
  repeat' (first | (apply AOps.nil; try simp only [List.nil_append, List.cons_append, List.set_cons_zero, List.set_cons_succ, List.length_cons, List.length_nil, Nat.reduceAdd, AV.sh, AV.sh1, AV.sh0, AO.sh, List.map_cons, List.map_nil, Nat.zero_add, Nat.add_zero, setAll]) | (apply w_assign; exact rfl; exact rfl) | apply AWp.seq | apply AWp.region | apply AWp.block | ((apply w_boxa); iterate 2 exact rfl) | (apply w_bs0; iterate 1 exact rfl))
  refine AWp.loop (ι := Nat) (fun k => ⟨62, [(1, .i v), (2, .optr 0 0), (5, .own 1), (6, .i k)]⟩) (fun k => [.bx 32 [.ints W, .intss E], .sli 2 (nr1 (E.take k) v)]) (fun k => k ≤ E.length) (fun k => E.length - k) 0 (by omega) ⟨lee rfl (by (repeat (first | exact le_nil | refine le_eq rfl rfl ?_))), by (repeat (first | exact lo_nil | refine lo_eq rfl ?_)), rfl, rfl⟩ ?_
  intro k k0
  have hl := nr1_len (E.take k) v
  rw [List.length_take] at hl
  by_cases hk : k < E.length
  · obtain ⟨a1, a2, a3, a4⟩ := hat k hk
    have hs := nr1_snoc hk v
    have hbl : ((nr1 (E.take k) v).length + [geti (gets E (k : Nat)) 0].length) * 8 ≤ 140737488355328 := by
      simp only [List.length_cons, List.length_nil]; omega
    generalize nr1 (E.take k) v = L at *
    by_cases hc : geti (gets E (k : Nat)) 1 = v
    · rw [if_pos hc] at hs
      repeat' (first | (apply AOps.nil; try simp only [List.nil_append, List.cons_append, List.set_cons_zero, List.set_cons_succ, List.length_cons, List.length_nil, Nat.reduceAdd, AV.sh, AV.sh1, AV.sh0, AO.sh, List.map_cons, List.map_nil, Nat.zero_add, Nat.add_zero, setAll]) | (apply w_move; exact rfl; exact rfl) | (apply w_assign; exact rfl; exact rfl) | apply AWp.seq | apply AWp.region | ((apply AWp.condP; exact rfl) <;> intro h) | apply AWp.block | apply AWp.exit | apply AWp.skip | (apply w_len; exact rfl; exact rfl; first | exact .ints _ | exact .intss _ | exact .sli rfl | exact .sls rfl | exact .slr rfl | exact .orow rfl | exact .nil) | omega | ((first | apply w_lss | apply w_eql | apply w_add | apply w_idx | apply w_ld | apply w_fa); iterate 3 exact rfl) | ((first | apply w_idxs | apply w_lds); iterate 3 exact rfl) | ((apply w_bs1); iterate 2 exact rfl) | (apply w_ldb; iterate 5 exact rfl) | (apply w_app; exact rfl; exact rfl; exact rfl; exact rfl; (exact .sli rfl); rotate_left 1; simp only [Env.mp, List.map_cons, List.map_nil, List.set_cons_zero, List.set_cons_succ, AV.kill, AV.kill1, AO.kill, AV.noRow, AV.noRow1, AO.via, reduceIte, Nat.reduceEqDiff, Nat.reduceLT, Env.up, Nat.zero_ne_one, Nat.one_ne_zero, Nat.reduceAdd, List.cons_append, List.nil_append]; rotate_left 1) | (apply inI_of <;> omega))
      exact ⟨k + 1, by omega, by omega, ⟨lee rfl (by (repeat (first | exact le_nil | refine le_eq rfl rfl ?_))), by (repeat (first | exact lo_nil | refine lo_eq rfl ?_ | refine lo_eq (congrArg (AO.sli _) (hs.symm)) ?_)), rfl, rfl⟩⟩
    · rw [if_neg hc, List.append_nil] at hs
      repeat' (first | (apply AOps.nil; try simp only [List.nil_append, List.cons_append, List.set_cons_zero, List.set_cons_succ, List.length_cons, List.length_nil, Nat.reduceAdd, AV.sh, AV.sh1, AV.sh0, AO.sh, List.map_cons, List.map_nil, Nat.zero_add, Nat.add_zero, setAll]) | (apply w_move; exact rfl; exact rfl) | (apply w_assign; exact rfl; exact rfl) | apply AWp.seq | apply AWp.region | ((apply AWp.condP; exact rfl) <;> intro h) | apply AWp.block | apply AWp.exit | apply AWp.skip | (apply w_len; exact rfl; exact rfl; first | exact .ints _ | exact .intss _ | exact .sli rfl | exact .sls rfl | exact .slr rfl | exact .orow rfl | exact .nil) | omega | ((first | apply w_lss | apply w_eql | apply w_add | apply w_idx | apply w_ld | apply w_fa); iterate 3 exact rfl) | ((first | apply w_idxs | apply w_lds); iterate 3 exact rfl) | (apply w_ldb; iterate 5 exact rfl) | (apply inI_of <;> omega))
      exact ⟨k + 1, by omega, by omega, ⟨lee rfl (by (repeat (first | exact le_nil | refine le_eq rfl rfl ?_))), by (repeat (first | exact lo_nil | refine lo_eq rfl ?_ | refine lo_eq (congrArg (AO.sli _) (hs.symm)) ?_)), rfl, rfl⟩⟩
  have ek : k = E.length := by omega
  subst ek
  rw [List.take_length] at hl ⊢
  repeat' (first | (apply AOps.nil; try simp only [List.nil_append, List.cons_append, List.set_cons_zero, List.set_cons_succ, List.length_cons, List.length_nil, Nat.reduceAdd, AV.sh, AV.sh1, AV.sh0, AO.sh, List.map_cons, List.map_nil, Nat.zero_add, Nat.add_zero, setAll]) | (apply w_move; exact rfl; exact rfl) | (apply w_assign; exact rfl; exact rfl) | apply AWp.seq | apply AWp.region | ((apply AWp.condP; exact rfl) <;> intro h) | apply AWp.block | apply AWp.exit | apply AWp.skip | (apply w_len; exact rfl; exact rfl; first | exact .ints _ | exact .intss _ | exact .sli rfl | exact .sls rfl | exact .slr rfl | exact .orow rfl | exact .nil) | omega | ((first | apply w_lss | apply w_ld | apply w_fa); iterate 3 exact rfl) | (apply w_ldb; iterate 5 exact rfl))
  refine AWp.loop (ι := Nat) (fun k => ⟨62, [(1, .i v), (2, .optr 0 0), (5, .own 1), (7, .i k)]⟩) (fun k => [.bx 32 [.ints W, .intss E], .sli 2 (nr1 E v ++ nr0 (E.take k) v)]) (fun k => k ≤ E.length) (fun k => E.length - k) 0 (by omega) ⟨lee rfl (by (repeat (first | exact le_nil | refine le_eq rfl rfl ?_))), by (repeat (first | exact lo_nil | refine lo_eq rfl ?_ | refine lo_eq (congrArg (AO.sli _) ((List.append_nil _).symm)) ?_)), rfl, rfl⟩ ?_
  intro k k0
  have hl0 := nr0_len (E.take k) v
  rw [List.length_take] at hl0
  by_cases hk : k < E.length
  · obtain ⟨a1, a2, a3, a4⟩ := hat k hk
    have hs : nr1 E v ++ nr0 (E.take (k + 1)) v = (nr1 E v ++ nr0 (E.take k) v) ++ (if geti (gets E (k : Nat)) 0 = v then [geti (gets E (k : Nat)) 1] else []) := by rw [nr0_snoc hk, List.append_assoc]
    have hbl : ((nr1 E v ++ nr0 (E.take k) v).length + [geti (gets E (k : Nat)) 1].length) * 8 ≤ 140737488355328 := by
      simp only [List.length_cons, List.length_nil, List.length_append]; omega
    generalize nr1 E v ++ nr0 (E.take k) v = L at *
    by_cases hc : geti (gets E (k : Nat)) 0 = v
    · rw [if_pos hc] at hs
      repeat' (first | (apply AOps.nil; try simp only [List.nil_append, List.cons_append, List.set_cons_zero, List.set_cons_succ, List.length_cons, List.length_nil, Nat.reduceAdd, AV.sh, AV.sh1, AV.sh0, AO.sh, List.map_cons, List.map_nil, Nat.zero_add, Nat.add_zero, setAll]) | (apply w_move; exact rfl; exact rfl) | (apply w_assign; exact rfl; exact rfl) | apply AWp.seq | apply AWp.region | ((apply AWp.condP; exact rfl) <;> intro h) | apply AWp.block | apply AWp.ret | apply AWp.exit | apply AWp.skip | (apply w_len; exact rfl; exact rfl; first | exact .ints _ | exact .intss _ | exact .sli rfl | exact .sls rfl | exact .slr rfl | exact .orow rfl | exact .nil) | omega | ((first | apply w_lss | apply w_eql | apply w_add | apply w_idx | apply w_ld | apply w_fa); iterate 3 exact rfl) | ((first | apply w_idxs | apply w_lds); iterate 3 exact rfl) | ((apply w_bs1); iterate 2 exact rfl) | (apply w_ldb; iterate 5 exact rfl) | (apply w_app; exact rfl; exact rfl; exact rfl; exact rfl; (exact .sli rfl); rotate_left 1; simp only [Env.mp, List.map_cons, List.map_nil, List.set_cons_zero, List.set_cons_succ, AV.kill, AV.kill1, AO.kill, AV.noRow, AV.noRow1, AO.via, reduceIte, Nat.reduceEqDiff, Nat.reduceLT, Env.up, Nat.zero_ne_one, Nat.one_ne_zero, Nat.reduceAdd, List.cons_append, List.nil_append]; rotate_left 1) | (apply inI_of <;> omega))
      exact ⟨k + 1, by omega, by omega, ⟨lee rfl (by (repeat (first | exact le_nil | refine le_eq rfl rfl ?_))), by (repeat (first | exact lo_nil | refine lo_eq rfl ?_ | refine lo_eq (congrArg (AO.sli _) (hs.symm)) ?_)), rfl, rfl⟩⟩
    · rw [if_neg hc, List.append_nil] at hs
      repeat' (first | (apply AOps.nil; try simp only [List.nil_append, List.cons_append, List.set_cons_zero, List.set_cons_succ, List.length_cons, List.length_nil, Nat.reduceAdd, AV.sh, AV.sh1, AV.sh0, AO.sh, List.map_cons, List.map_nil, Nat.zero_add, Nat.add_zero, setAll]) | (apply w_move; exact rfl; exact rfl) | (apply w_assign; exact rfl; exact rfl) | apply AWp.seq | apply AWp.region | ((apply AWp.condP; exact rfl) <;> intro h) | apply AWp.block | apply AWp.ret | apply AWp.exit | apply AWp.skip | (apply w_len; exact rfl; exact rfl; first | exact .ints _ | exact .intss _ | exact .sli rfl | exact .sls rfl | exact .slr rfl | exact .orow rfl | exact .nil) | omega | ((first | apply w_lss | apply w_eql | apply w_add | apply w_idx | apply w_ld | apply w_fa); iterate 3 exact rfl) | ((first | apply w_idxs | apply w_lds); iterate 3 exact rfl) | (apply w_ldb; iterate 5 exact rfl) | (apply inI_of <;> omega))
      exact ⟨k + 1, by omega, by omega, ⟨lee rfl (by (repeat (first | exact le_nil | refine le_eq rfl rfl ?_))), by (repeat (first | exact lo_nil | refine lo_eq rfl ?_ | refine lo_eq (congrArg (AO.sli _) (hs.symm)) ?_)), rfl, rfl⟩⟩
  have ek : k = E.length := by omega
  subst ek
  rw [List.take_length, ← near_cut]
  repeat' (first | (apply AOps.nil; try simp only [List.nil_append, List.cons_append, List.set_cons_zero, List.set_cons_succ, List.length_cons, List.length_nil, Nat.reduceAdd, AV.sh, AV.sh1, AV.sh0, AO.sh, List.map_cons, List.map_nil, Nat.zero_add, Nat.add_zero, setAll]) | (apply w_move; exact rfl; exact rfl) | (apply w_assign; exact rfl; exact rfl) | apply AWp.seq | apply AWp.region | ((apply AWp.condP; exact rfl) <;> intro h) | apply AWp.block | apply AWp.ret | apply AWp.exit | apply AWp.skip | (apply w_len; exact rfl; exact rfl; first | exact .ints _ | exact .intss _ | exact .sli rfl | exact .sls rfl | exact .slr rfl | exact .orow rfl | exact .nil) | omega | ((first | apply w_lss | apply w_ld | apply w_fa); iterate 3 exact rfl) | (apply w_ldb; iterate 5 exact rfl))
  exact ⟨_, _, _, .v1 Try.results52 rfl, .sli rfl, rfl, rfl⟩

set_option maxHeartbeats 16000000 in
theorem l11Order_c (W : List Int) (E : List (List Int)) (h : GrF W E) (r : Int) (hr : 0 ≤ r ∧ r < W.length) :
    AFnC Try.prog 43 [.agg [.ints W, .intss E], .i r] [] (fun v os => v = .tup [.own 0, .own 1] ∧ ∃ o p, Tr W.length (nearL E) r o p ∧ os = [.sli 2 o, .sli 2 p]) := by
  have hn := h.n
  have hF := h.fo.fst
  have hstart := Inv.start (near := nearL E) hr
  have hnear := l11Near_c W E h
  (refine AFnC.start Try.func43 Try.ntmps43 rfl (by kernel_rfl) fun K => ?_; simp only [Env.start, enumF, List.map_cons, List.map_nil, AV.sh, List.length_cons, List.length_nil, Nat.reduceAdd, Nat.reduceSub, List.cons_append, List.nil_append])
  repeat' (first | (apply AOps.nil; try simp only [List.nil_append, List.cons_append, List.set_cons_zero, List.set_cons_succ, List.length_cons, List.length_nil, Nat.reduceAdd, AV.sh, AV.sh1, AV.sh0, AO.sh, List.map_cons, List.map_nil, Nat.zero_add, Nat.add_zero, setAll]) | (apply w_assign; exact rfl; exact rfl) | apply AWp.seq | apply AWp.region | apply AWp.block | ((apply w_boxa); iterate 2 exact rfl) | (apply w_bs0; iterate 1 exact rfl))
  refine AWp.loop (ι := Nat) (fun i => ⟨74, [(1, .i r), (2, .optr 1 0), (6, .own 2), (7, .i i)]⟩) (fun i => [.keep 1 K, .bx 32 [.ints W, .intss E], .sli 2 (List.replicate i (-1))]) (fun i => i ≤ W.length) (fun i => W.length - i) 0 (by omega) ⟨lee rfl (by (repeat (first | exact le_nil | refine le_eq rfl rfl ?_))), by (repeat (first | exact lo_nil | refine lo_eq rfl ?_)), rfl, rfl⟩ ?_
  intro i i0
  have hrl : (List.replicate i (-1 : Int)).length = i := List.length_replicate
  have hrs : List.replicate (i + 1) (-1 : Int) = List.replicate i (-1) ++ [-1] := List.replicate_succ'
  by_cases hi : i < W.length
  · have hbl : ((List.replicate i (-1 : Int)).length + [(-1 : Int)].length) * 8 ≤ 140737488355328 := by
      simp only [List.length_cons, List.length_nil]; omega
    generalize List.replicate i (-1 : Int) = L at *
    repeat' (first | (apply AOps.nil; try simp only [List.nil_append, List.cons_append, List.set_cons_zero, List.set_cons_succ, List.length_cons, List.length_nil, Nat.reduceAdd, AV.sh, AV.sh1, AV.sh0, AO.sh, List.map_cons, List.map_nil, Nat.zero_add, Nat.add_zero, setAll]) | (apply w_move; exact rfl; exact rfl) | (apply w_assign; exact rfl; exact rfl) | apply AWp.seq | apply AWp.region | ((apply AWp.condP; exact rfl) <;> intro h) | apply AWp.block | apply AWp.exit | apply AWp.skip | (apply w_len; exact rfl; exact rfl; first | exact .ints _ | exact .intss _ | exact .sli rfl | exact .sls rfl | exact .slr rfl | exact .orow rfl | exact .nil) | omega | ((first | apply w_lss | apply w_add | apply w_ld | apply w_fa); iterate 3 exact rfl) | ((apply w_bs1); iterate 2 exact rfl) | (apply w_ldb; iterate 5 exact rfl) | (apply w_app; exact rfl; exact rfl; exact rfl; exact rfl; (exact .sli rfl); rotate_left 1; simp only [Env.mp, List.map_cons, List.map_nil, List.set_cons_zero, List.set_cons_succ, AV.kill, AV.kill1, AO.kill, AV.noRow, AV.noRow1, AO.via, reduceIte, Nat.reduceEqDiff, Nat.reduceLT, Env.up, Nat.zero_ne_one, Nat.one_ne_zero, Nat.reduceAdd, List.cons_append, List.nil_append]; rotate_left 1) | (apply inI_of <;> omega))
    exact ⟨i + 1, by omega, by omega, ⟨lee rfl (by (repeat (first | exact le_nil | refine le_eq rfl rfl ?_))), by (repeat (first | exact lo_nil | refine lo_eq rfl ?_ | refine lo_eq (congrArg (AO.sli _) (hrs.symm)) ?_)), rfl, rfl⟩⟩
  have ei : i = W.length := by omega
  subst ei
  repeat' (first | (apply AOps.nil; try simp only [List.nil_append, List.cons_append, List.set_cons_zero, List.set_cons_succ, List.length_cons, List.length_nil, Nat.reduceAdd, AV.sh, AV.sh1, AV.sh0, AO.sh, List.map_cons, List.map_nil, Nat.zero_add, Nat.add_zero, setAll]) | (apply w_move; exact rfl; exact rfl) | (apply w_assign; exact rfl; exact rfl) | apply AWp.seq | apply AWp.region | ((apply AWp.condP; exact rfl) <;> intro h) | apply AWp.block | apply AWp.exit | apply AWp.skip | (apply w_len; exact rfl; exact rfl; first | exact .ints _ | exact .intss _ | exact .sli rfl | exact .sls rfl | exact .slr rfl | exact .orow rfl | exact .nil) | omega | ((first | apply w_lss | apply w_ld | apply w_fa); iterate 3 exact rfl) | ((apply w_bs1); iterate 2 exact rfl) | (apply w_ldb; iterate 5 exact rfl) | (apply inI_of <;> omega))
  refine AWp.loop (ι := Nat × List Int × List Int) (fun x => ⟨74, [(2, .optr 1 0), (6, .own 2), (8, .own 3), (9, .i x.1)]⟩) (fun x => [.keep 1 K, .bx 32 [.ints W, .intss E], .sli 2 x.2.2, .sli 2 x.2.1]) (fun x => Inv W.length (nearL E) r x.1 x.2.1 x.2.2) (fun x => W.length - x.1) (0, [r], List.replicate W.length (-1)) hstart ⟨lee rfl (by (repeat (first | exact le_nil | refine le_eq rfl rfl ?_))), by (repeat (first | exact lo_nil | refine lo_eq rfl ?_)), rfl, rfl⟩ ?_
  rintro ⟨i, o, p⟩ hI
  have hob := hI.bd
  have hle := hI.le
  simp only at hI hob hle
  have hpl := hI.len
  by_cases hi2 : i < o.length
  · obtain ⟨v, ev⟩ : ∃ v, v = geti o (((i : Nat) : Int).toNat : Nat) := ⟨_, rfl⟩
    have ev2 : o[i]? = some v := by
      rw [ev, Int.toNat_natCast]; simp [geti, List.getD_eq_getElem?_getD, List.getElem?_eq_getElem hi2]
    have hvm : v ∈ o := List.mem_of_getElem? ev2
    have hvr := hI.rng v hvm
    have hnv := hnear v
    have hnl := fun u => hF.bnd v u
    have hnd := hF.nd v
    have hin := hI.into ev2
    have hlen : (nearL E v).length ≤ W.length := nd_len hnd (fun x hx => (hF.bnd v x hx).1)
    repeat' (first | (apply AOps.nil; try simp only [List.nil_append, List.cons_append, List.set_cons_zero, List.set_cons_succ, List.length_cons, List.length_nil, Nat.reduceAdd, AV.sh, AV.sh1, AV.sh0, AO.sh, List.map_cons, List.map_nil, Nat.zero_add, Nat.add_zero, setAll]) | (apply w_move; exact rfl; exact rfl) | (apply w_assign; exact rfl; exact rfl) | apply AWp.seq | apply AWp.region | ((apply AWp.condP; exact rfl) <;> intro h) | apply AWp.block | apply AWp.ret | apply AWp.exit | apply AWp.skip | (apply w_len; exact rfl; exact rfl; first | exact .ints _ | exact .intss _ | exact .sli rfl | exact .sls rfl | exact .slr rfl | exact .orow rfl | exact .nil) | omega | ((apply w_lss); iterate 3 exact rfl))
    refine AWp.regionG [] (by kernel_rfl) (envC := ⟨74, [(2, .optr 1 0), (6, .own 2), (8, .own 3), (9, .i i), (10, .own 4)]⟩) (osC := [.keep 1 K, .bx 32 [.ints W, .intss E], .sli 2 p, .sli 2 o, .sli 2 (nearL E v)]) rfl (by first | exact rfl | (simp [AO.lim, AV.lim, bL_lim]; done)) ?_ ?_
    · rw [ev] at hnv ⊢
      repeat' (first | (apply AOps.nil; try simp only [List.nil_append, List.cons_append, List.set_cons_zero, List.set_cons_succ, List.length_cons, List.length_nil, Nat.reduceAdd, AV.sh, AV.sh1, AV.sh0, AO.sh, List.map_cons, List.map_nil, Nat.zero_add, Nat.add_zero, setAll]) | (apply w_move; exact rfl; exact rfl) | (apply w_assign; exact rfl; exact rfl) | apply AllOfG.nil | (apply AllOfG.consS; exact rfl; exact rfl) | (apply AAnyG.takeW; exact rfl; exact rfl; kernel_rfl; kernel_rfl) | (apply AAnyG.takeL; exact rfl; exact rfl; kernel_rfl) | (apply AAnyG.all; exact rfl) | (apply AAnyG.done; exact rfl) | (apply w_callm (hnv); (focus ((repeat (first | exact im_nil | refine im_cons rfl (im_agg2 (.ints _) (.intss _)) ?_ | refine im_cons rfl (.val _) ?_)); done)); rintro r os0 ⟨rfl, rfl⟩; try simp only [List.nil_append, List.cons_append, List.set_cons_zero, List.set_cons_succ, List.length_cons, List.length_nil, Nat.reduceAdd, AV.sh, AV.sh1, AV.sh0, AO.sh, List.map_cons, List.map_nil, Nat.zero_add, Nat.add_zero, setAll]) | omega | (apply w_idxo; exact rfl; exact rfl; (exact .sli rfl); exact rfl) | (apply w_ldo; iterate 4 exact rfl) | (apply w_ldst; iterate 5 exact rfl))
      all_goals (apply Or.inl; refine ⟨lee rfl ?_, ?_, rfl, (by first | exact rfl | (simp [AO.lim, AV.lim, bL_lim]; done))⟩; (focus ((repeat (first | exact le_nil | refine le_eq rfl rfl ?_)); done)); (focus ((repeat (first | exact lo_nil | refine lo_eq rfl ?_)); done)))
    clear hnv
    repeat' (first | (apply AOps.nil; try simp only [List.nil_append, List.cons_append, List.set_cons_zero, List.set_cons_succ, List.length_cons, List.length_nil, Nat.reduceAdd, AV.sh, AV.sh1, AV.sh0, AO.sh, List.map_cons, List.map_nil, Nat.zero_add, Nat.add_zero, setAll]) | (apply w_assign; exact rfl; exact rfl) | apply AWp.seq | apply AWp.region | apply AWp.block)
    refine AWp.loop (ι := Nat × List Int × List Int) (fun x => ⟨74, [(2, .optr 1 0), (6, .own 2), (8, .own 3), (9, .i i), (10, .own 4), (11, .i x.1)]⟩) (fun x => [.keep 1 K, .bx 32 [.ints W, .intss E], .sli 2 x.2.2, .sli 2 x.2.1, .sli 2 (nearL E v)]) (fun x => x.1 ≤ (nearL E v).length ∧ InvK W.length (nearL E) r i v ((nearL E v).take x.1) x.2.1 x.2.2) (fun x => (nearL E v).length - x.1) (0, o, p) ⟨by simp only; omega, hin⟩ ⟨lee rfl (by (repeat (first | exact le_nil | refine le_eq rfl rfl ?_))), by (repeat (first | exact lo_nil | refine lo_eq rfl ?_)), rfl, (by first | exact rfl | (simp [AO.lim, AV.lim, bL_lim]; done))⟩ ?_
    rintro ⟨k, o, p⟩ ⟨k0, hK⟩
    simp only at k0 hK
    have hob2 := hK.bd
    have hpl2 := hK.len
    have hat := hK.at_
    have hio : i < o.length := (List.getElem?_eq_some_iff.1 hat).1
    have hgv : geti o (((i : Nat) : Int).toNat : Nat) = v := by
      rw [Int.toNat_natCast]; simp [geti, List.getD_eq_getElem?_getD, hat]
    by_cases hk : k < (nearL E v).length
    · obtain ⟨u, eu⟩ : ∃ u, u = geti (nearL E v) (((k : Nat) : Int).toNat : Nat) := ⟨_, rfl⟩
      have eu2 : (nearL E v)[k]? = some u := by
        rw [eu, Int.toNat_natCast]; simp [geti, List.getD_eq_getElem?_getD, List.getElem?_eq_getElem hk]
      have hum : u ∈ nearL E v := List.mem_of_getElem? eu2
      obtain ⟨u0, _, _⟩ := hnl u hum
      have et : (nearL E v).take (k + 1) = (nearL E v).take k ++ [u] := by rw [List.take_add_one, eu2]; rfl
      have hdn : ∀ x ∈ (nearL E v).take k, x ∈ nearL E v := fun x hx => List.mem_of_mem_take hx
      have hud : u ∉ (nearL E v).take k := fun hx => by
        obtain ⟨j, hj, ej⟩ := List.mem_take_iff_getElem.1 hx
        have e1 : (nearL E v)[j]? = some u := by rw [List.getElem?_eq_getElem (by omega), ej]
        have := nd_get hnd e1 eu2
        omega
      have hskip := fun hu => hK.skip (u := u) hu
      have hpush := fun hu => hK.push hF hdn hum hud hu
      rw [← et] at hskip hpush
      generalize nearL E v = nv at *
      by_cases hup : u = geti p v
      · have hq := hskip hup
        have hup' : geti nv (((k : Nat) : Int).toNat : Nat) = geti p ((geti o (((i : Nat) : Int).toNat : Nat)).toNat : Nat) := by rw [hgv, Int.toNat_of_nonneg hvr.1, ← eu]; exact hup
        repeat' (first | (apply AOps.nil; try simp only [List.nil_append, List.cons_append, List.set_cons_zero, List.set_cons_succ, List.length_cons, List.length_nil, Nat.reduceAdd, AV.sh, AV.sh1, AV.sh0, AO.sh, List.map_cons, List.map_nil, Nat.zero_add, Nat.add_zero, setAll]) | (apply w_move; exact rfl; exact rfl) | apply AWp.seq | apply AWp.region | ((apply AWp.condP; exact rfl) <;> intro h) | apply AWp.block | apply AWp.exit | apply AWp.skip | (apply w_len; exact rfl; exact rfl; first | exact .ints _ | exact .intss _ | exact .sli rfl | exact .sls rfl | exact .slr rfl | exact .orow rfl | exact .nil) | omega | ((apply w_lss); iterate 3 exact rfl))
        refine AWp.regionQ (by kernel_rfl) (by kernel_rfl) ?_
        repeat' (first | (apply AOps.nil; try simp only [List.nil_append, List.cons_append, List.set_cons_zero, List.set_cons_succ, List.length_cons, List.length_nil, Nat.reduceAdd, AV.sh, AV.sh1, AV.sh0, AO.sh, List.map_cons, List.map_nil, Nat.zero_add, Nat.add_zero, setAll]) | (apply w_move; exact rfl; exact rfl) | (apply w_assign; exact rfl; exact rfl) | apply AWp.seq | apply AWp.region | ((apply AWp.condP; exact rfl) <;> intro h) | apply AWp.skip | omega | ((first | apply w_neq | apply w_add | apply w_idx | apply w_ld); iterate 3 exact rfl) | (apply w_idxo; exact rfl; exact rfl; (exact .sli rfl); exact rfl) | (apply w_ldo; iterate 4 exact rfl) | (apply inI_of <;> omega))
        all_goals try (exfalso; first | exact absurd hup' (by assumption) | exact absurd (by assumption) hup')
        exact ⟨(k + 1, o, p), ⟨by simp only; omega, hq⟩, by simp only; omega, ⟨lee rfl (by (repeat (first | exact le_nil | refine le_eq rfl rfl ?_))), by (repeat (first | exact lo_nil | refine lo_eq rfl ?_)), rfl, (by first | exact rfl | (simp [AO.lim, AV.lim, bL_lim]; done))⟩⟩
      · have hq := hpush hup
        have hup' : ¬ geti nv (((k : Nat) : Int).toNat : Nat) = geti p ((geti o (((i : Nat) : Int).toNat : Nat)).toNat : Nat) := by rw [hgv, Int.toNat_of_nonneg hvr.1, ← eu]; exact hup
        have hbl : (o.length + [u].length) * 8 ≤ 140737488355328 := by
          simp only [List.length_cons, List.length_nil]; omega
        repeat' (first | (apply AOps.nil; try simp only [List.nil_append, List.cons_append, List.set_cons_zero, List.set_cons_succ, List.length_cons, List.length_nil, Nat.reduceAdd, AV.sh, AV.sh1, AV.sh0, AO.sh, List.map_cons, List.map_nil, Nat.zero_add, Nat.add_zero, setAll]) | (apply w_move; exact rfl; exact rfl) | apply AWp.seq | apply AWp.region | ((apply AWp.condP; exact rfl) <;> intro h) | apply AWp.block | apply AWp.exit | apply AWp.skip | (apply w_len; exact rfl; exact rfl; first | exact .ints _ | exact .intss _ | exact .sli rfl | exact .sls rfl | exact .slr rfl | exact .orow rfl | exact .nil) | omega | ((apply w_lss); iterate 3 exact rfl))
        refine AWp.regionQ (by kernel_rfl) (by kernel_rfl) ?_
        repeat' (first | (apply AOps.nil; try simp only [List.nil_append, List.cons_append, List.set_cons_zero, List.set_cons_succ, List.length_cons, List.length_nil, Nat.reduceAdd, AV.sh, AV.sh1, AV.sh0, AO.sh, List.map_cons, List.map_nil, Nat.zero_add, Nat.add_zero, setAll]) | (apply w_move; exact rfl; exact rfl) | apply AWp.seq | apply AWp.region | ((apply AWp.condP; exact rfl) <;> intro h) | apply AWp.skip | omega | ((first | apply w_neq | apply w_idx | apply w_ld); iterate 3 exact rfl) | (apply w_idxo; exact rfl; exact rfl; (exact .sli rfl); exact rfl) | (apply w_ldo; iterate 4 exact rfl))
        all_goals try (exfalso; first | exact absurd hup' (by assumption) | exact absurd (by assumption) hup')
        refine AWp.regionG [] (by kernel_rfl) (envC := ⟨74, [(2, .optr 1 0), (6, .own 2), (8, .own 3), (9, .i i), (10, .own 4), (11, .i k)]⟩) (osC := [.keep 1 K, .bx 32 [.ints W, .intss E], .sli 2 (p.set u.toNat v), .sli 2 o, .sli 2 nv]) rfl (by first | exact rfl | (simp [AO.lim, AV.lim, bL_lim]; done)) ?_ ?_
        · rw [eu] at u0 ⊢
          rw [← hgv] at hvr ⊢
          repeat' (first | (apply AOps.nil; try simp only [List.nil_append, List.cons_append, List.set_cons_zero, List.set_cons_succ, List.length_cons, List.length_nil, Nat.reduceAdd, AV.sh, AV.sh1, AV.sh0, AO.sh, List.map_cons, List.map_nil, Nat.zero_add, Nat.add_zero, setAll]) | (apply w_move; exact rfl; exact rfl) | apply AllOfG.nil | (apply AllOfG.consS; exact rfl; exact rfl) | (apply AAnyG.takeW; exact rfl; exact rfl; kernel_rfl; kernel_rfl) | (apply AAnyG.takeL; exact rfl; exact rfl; kernel_rfl) | (apply AAnyG.all; exact rfl) | (apply AAnyG.done; exact rfl) | omega | (apply w_idxo; exact rfl; exact rfl; (exact .sli rfl); exact rfl) | (apply w_ldo; iterate 4 exact rfl) | (apply w_sti; exact rfl; exact rfl; rotate_left 1; exact rfl; rotate_left 2) | (apply inI_of <;> omega))
          all_goals (apply Or.inl; refine ⟨lee rfl ?_, ?_, rfl, (by first | exact rfl | (simp [AO.lim, AV.lim, bL_lim]; done))⟩; (focus ((repeat (first | exact le_nil | refine le_eq rfl rfl ?_)); done)); (focus ((repeat (first | exact lo_nil | refine lo_eq rfl ?_)); done)))
        generalize p.set u.toNat v = p' at *
        repeat' (first | (apply AOps.nil; try simp only [List.nil_append, List.cons_append, List.set_cons_zero, List.set_cons_succ, List.length_cons, List.length_nil, Nat.reduceAdd, AV.sh, AV.sh1, AV.sh0, AO.sh, List.map_cons, List.map_nil, Nat.zero_add, Nat.add_zero, setAll]) | (apply w_move; exact rfl; exact rfl) | (apply w_assign; exact rfl; exact rfl) | apply AWp.region | omega | ((first | apply w_add | apply w_idx | apply w_ld); iterate 3 exact rfl) | ((apply w_bs1); iterate 2 exact rfl) | (apply w_idxo; exact rfl; exact rfl; (exact .sli rfl); exact rfl) | (apply w_ldo; iterate 4 exact rfl) | (apply w_app; exact rfl; exact rfl; exact rfl; exact rfl; (exact .sli rfl); rotate_left 1; simp only [Env.mp, List.map_cons, List.map_nil, List.set_cons_zero, List.set_cons_succ, AV.kill, AV.kill1, AO.kill, AV.noRow, AV.noRow1, AO.via, reduceIte, Nat.reduceEqDiff, Nat.reduceLT, Env.up, Nat.zero_ne_one, Nat.one_ne_zero, Nat.reduceAdd, List.cons_append, List.nil_append]; rotate_left 1) | (apply inI_of <;> omega))
        rw [eu] at hbl u0
        repeat' (apply AOps.nil; try simp only [List.nil_append, List.cons_append, List.set_cons_zero, List.set_cons_succ, List.length_cons, List.length_nil, Nat.reduceAdd, AV.sh, AV.sh1, AV.sh0, AO.sh, List.map_cons, List.map_nil, Nat.zero_add, Nat.add_zero, setAll])
        exact ⟨(k + 1, o ++ [u], p'), ⟨by simp only; omega, hq⟩, by simp only; omega, by rw [eu]; exact ⟨lee rfl (by (repeat (first | exact le_nil | refine le_eq rfl rfl ?_))), by (repeat (first | exact lo_nil | refine lo_eq rfl ?_)), rfl, (by first | exact rfl | (simp [AO.lim, AV.lim, bL_lim]; done))⟩⟩
    · have ek : k = (nearL E v).length := by omega
      subst ek
      rw [List.take_length] at hK
      have hout := hK.out
      repeat' (first | (apply AOps.nil; try simp only [List.nil_append, List.cons_append, List.set_cons_zero, List.set_cons_succ, List.length_cons, List.length_nil, Nat.reduceAdd, AV.sh, AV.sh1, AV.sh0, AO.sh, List.map_cons, List.map_nil, Nat.zero_add, Nat.add_zero, setAll]) | (apply w_move; exact rfl; exact rfl) | (apply w_assign; exact rfl; exact rfl) | apply AWp.seq | apply AWp.region | ((apply AWp.condP; exact rfl) <;> intro h) | apply AWp.block | apply AWp.exit | apply AWp.skip | (apply w_len; exact rfl; exact rfl; first | exact .ints _ | exact .intss _ | exact .sli rfl | exact .sls rfl | exact .slr rfl | exact .orow rfl | exact .nil) | omega | ((first | apply w_lss | apply w_add); iterate 3 exact rfl) | (apply inI_of <;> omega))
      exact ⟨(i + 1, o, p), hout, by simp only; omega, ⟨lee rfl (by (repeat (first | exact le_nil | refine le_eq rfl rfl ?_))), by (repeat (first | exact lo_nil | refine lo_eq rfl ?_)), rfl, (by first | exact rfl | (simp [AO.lim, AV.lim, bL_lim]; done))⟩⟩
  · have ei : i = o.length := by omega
    subst ei
    repeat' (first | (apply AOps.nil; try simp only [List.nil_append, List.cons_append, List.set_cons_zero, List.set_cons_succ, List.length_cons, List.length_nil, Nat.reduceAdd, AV.sh, AV.sh1, AV.sh0, AO.sh, List.map_cons, List.map_nil, Nat.zero_add, Nat.add_zero, setAll]) | (apply w_move; exact rfl; exact rfl) | (apply w_assign; exact rfl; exact rfl) | apply AWp.seq | apply AWp.region | ((apply AWp.condP; exact rfl) <;> intro h) | apply AWp.block | apply AWp.ret | apply AWp.exit | apply AWp.skip | (apply w_len; exact rfl; exact rfl; first | exact .ints _ | exact .intss _ | exact .sli rfl | exact .sls rfl | exact .slr rfl | exact .orow rfl | exact .nil) | omega | ((apply w_lss); iterate 3 exact rfl))
    refine ⟨⟨74, [(4, .own 1), (5, .own 2)]⟩, [.sli 2 o, .sli 2 p], .tup [.own 0, .own 1], Turns.or ?_, ResIs.a2 rfl rfl rfl, all_cons' trivial (all_cons' trivial all_nil'), ⟨rfl, o, p, hI, rfl⟩, all_cons' trivial (all_cons' trivial all_nil')⟩
    (apply Or.inr; refine ⟨[0, 3, 2], ⟨by decide, fun x hx => Nat.lt_of_lt_of_le ((by decide : ∀ x ∈ ([0, 3, 2] : List Nat), x < 4) x hx) (Nat.le_of_ble_eq_true rfl)⟩, lee rfl ?_, ?_, rfl, (by first | exact rfl | (simp [AO.lim, AV.lim, bL_lim]; done))⟩; (focus ((repeat (first | exact le_nil | refine le_eq rfl rfl ?_)); done)); (focus ((repeat (first | exact lo_nil | refine lo_eq rfl ?_)); done)))
end Go.Proofs.Ytcolpjpppdmanaa
/-
  The path up a tree, and paths between two vertices, walked. Condition: a forest.
-/
namespace Go.Proofs.Ytcolpjpppdmanaa
open Go Go.RowKit
attribute [local irreducible] AWp AOps ResIs Ret1 QOp LOp COp AFnV AFn Imms LeE LeO
set_option maxHeartbeats 1000000
set_option linter.unusedSimpArgs false
set_option linter.unusedVariables false

/-- The first index, or -1. -/
def ixJ (n : Int) : List Int → Nat → Int
  | [], _ => -1
  | x :: xs, j => if x = n then j else ixJ n xs (j + 1)
theorem ixJ_mem (n : Int) : ∀ (xs : List Int) (j : Nat), decide (0 ≤ ixJ n xs j) = decide (n ∈ xs)
  | [], j => by simp [ixJ]
  | x :: xs, j => by
    rw [ixJ]
    split
    · rename_i e
      simp [e]
    · rename_i e
      rw [ixJ_mem n xs (j + 1)]
      simp [Ne.symm e]
theorem l01Ix_c (xs : List Int) (n : Int) (hl : xs.length ≤ 1000000) : AFnV Try.prog 53 [.ints xs, .i n] (.int .i64 (ixJ n xs 0)) := by
  (refine AFnV.start Try.func53 Try.ntmps53 rfl (by kernel_rfl) fun hk => ?_; simp only [Env.start, enumF, List.length_cons, List.length_nil, Nat.reduceAdd, Nat.reduceSub, List.cons_append, List.nil_append])
  repeat' (first | (apply AOps.nil; try simp only [List.nil_append, List.cons_append, List.set_cons_zero, List.set_cons_succ, List.length_cons, List.length_nil, Nat.reduceAdd, AV.sh, AV.sh1, AV.sh0, AO.sh, List.map_cons, List.map_nil, Nat.zero_add, Nat.add_zero, setAll]) | (apply w_assign; exact rfl; exact rfl) | apply AWp.seq | apply AWp.region | apply AWp.block)
  refine AWp.loop (ι := Nat) (fun i => ⟨19, [(0, .ints xs), (1, .i n), (5, .i i)]⟩) (fun _ => []) (fun i => i ≤ xs.length ∧ ixJ n (xs.drop i) i = ixJ n xs 0) (fun i => xs.length - i) 0 ⟨Nat.zero_le _, by simp⟩ ⟨lee rfl (by (repeat (first | exact le_nil | refine le_eq rfl rfl ?_))), by (repeat (exact lo_nil)), rfl, rfl⟩ ?_
  rintro i ⟨i0, i1⟩
  by_cases hi : i < xs.length
  · have e : xs[i] = geti xs (i : Nat) := by simp [geti, hi]
    rw [List.drop_eq_getElem_cons hi, e, ixJ] at i1
    by_cases he : geti xs (i : Nat) = n
    · rw [if_pos he] at i1
      rw [← i1]
      repeat' (first | (apply AOps.nil; try simp only [List.nil_append, List.cons_append, List.set_cons_zero, List.set_cons_succ, List.length_cons, List.length_nil, Nat.reduceAdd, AV.sh, AV.sh1, AV.sh0, AO.sh, List.map_cons, List.map_nil, Nat.zero_add, Nat.add_zero, setAll]) | (apply w_move; exact rfl; exact rfl) | (apply w_assign; exact rfl; exact rfl) | apply AWp.seq | apply AWp.region | ((apply AWp.condP; exact rfl) <;> intro h) | apply AWp.block | apply AWp.ret | apply AWp.exit | apply AWp.skip | (apply w_len; exact rfl; exact rfl; first | exact .ints _ | exact .intss _ | exact .sli rfl | exact .sls rfl | exact .slr rfl | exact .orow rfl | exact .nil) | omega | ((first | apply w_lss | apply w_eql | apply w_idx | apply w_ld); iterate 3 exact rfl))
      all_goals exact .int Try.results53 rfl rfl
    · rw [if_neg he] at i1
      repeat' (first | (apply AOps.nil; try simp only [List.nil_append, List.cons_append, List.set_cons_zero, List.set_cons_succ, List.length_cons, List.length_nil, Nat.reduceAdd, AV.sh, AV.sh1, AV.sh0, AO.sh, List.map_cons, List.map_nil, Nat.zero_add, Nat.add_zero, setAll]) | (apply w_move; exact rfl; exact rfl) | (apply w_assign; exact rfl; exact rfl) | apply AWp.seq | apply AWp.region | ((apply AWp.condP; exact rfl) <;> intro h) | apply AWp.block | apply AWp.ret | apply AWp.exit | apply AWp.skip | (apply w_len; exact rfl; exact rfl; first | exact .ints _ | exact .intss _ | exact .sli rfl | exact .sls rfl | exact .slr rfl | exact .orow rfl | exact .nil) | omega | ((first | apply w_lss | apply w_eql | apply w_add | apply w_idx | apply w_ld); iterate 3 exact rfl) | (apply inI_of <;> omega))
      exact ⟨i + 1, ⟨by omega, i1⟩, by omega, ⟨lee rfl (by (repeat (first | exact le_nil | refine le_eq rfl rfl ?_))), by (repeat (exact lo_nil)), rfl, rfl⟩⟩
  · obtain rfl : i = xs.length := by omega
    rw [List.drop_length, ixJ] at i1
    rw [← i1]
    repeat' (first | (apply AOps.nil; try simp only [List.nil_append, List.cons_append, List.set_cons_zero, List.set_cons_succ, List.length_cons, List.length_nil, Nat.reduceAdd, AV.sh, AV.sh1, AV.sh0, AO.sh, List.map_cons, List.map_nil, Nat.zero_add, Nat.add_zero, setAll]) | (apply w_move; exact rfl; exact rfl) | (apply w_assign; exact rfl; exact rfl) | apply AWp.seq | apply AWp.region | ((apply AWp.condP; exact rfl) <;> intro h) | apply AWp.block | apply AWp.ret | apply AWp.exit | apply AWp.skip | (apply w_len; exact rfl; exact rfl; first | exact .ints _ | exact .intss _ | exact .sli rfl | exact .sls rfl | exact .slr rfl | exact .orow rfl | exact .nil) | omega | ((apply w_lss); iterate 3 exact rfl))
    all_goals exact .int Try.results53 rfl rfl
theorem l01Hs_c (xs : List Int) (n : Int) (hl : xs.length ≤ 1000000) : AFnV Try.prog 44 [.ints xs, .i n] (.bool (decide (n ∈ xs))) := by
  have hi := l01Ix_c xs n hl
  (refine AFnV.start Try.func44 Try.ntmps44 rfl (by kernel_rfl) fun hk => ?_; simp only [Env.start, enumF, List.length_cons, List.length_nil, Nat.reduceAdd, Nat.reduceSub, List.cons_append, List.nil_append])
  repeat' (first | (apply AOps.nil; try simp only [List.nil_append, List.cons_append, List.set_cons_zero, List.set_cons_succ, List.length_cons, List.length_nil, Nat.reduceAdd, AV.sh, AV.sh1, AV.sh0, AO.sh, List.map_cons, List.map_nil, Nat.zero_add, Nat.add_zero, setAll]) | (apply w_move; exact rfl; exact rfl) | (apply w_assign; exact rfl; exact rfl) | apply AWp.seq | apply AWp.region | apply AWp.ret | (apply w_call (hi); exact rfl; exact rfl; focus ((repeat (first | exact im_nil | refine im_cons rfl (.val _) ?_ | refine im_cons rfl (.ints _) ?_)); done)) | ((apply w_geq); iterate 3 exact rfl))
  exact .bool Try.results44 rfl (ixJ_mem n xs 0)
/-- The walk up, by places. -/
theorem upw_at {p : List Int} {k : Int} : ∀ {U : List Int}, UpW p k U → 0 < U.length ∧ geti U ((U.length - 1 : Nat) : Int) = k ∧ ∀ a : Nat, a + 1 < U.length → geti U (a : Nat) ≠ k ∧ geti p (geti U (a : Nat)) = geti U ((a + 1 : Nat) : Int)
  | [], h => h.elim
  | [i], h => ⟨by simp, h, fun a ha => by simp at ha⟩
  | i :: j :: l, h => by
    obtain ⟨h1, h2, h3⟩ := h
    obtain ⟨g1, g2, g3⟩ := upw_at h3
    refine ⟨by simp, ?_, fun a ha => ?_⟩
    · have e : geti (i :: j :: l) (((i :: j :: l).length - 1 : Nat) : Int) = geti (j :: l) (((j :: l).length - 1 : Nat) : Int) := by
        simp [geti]
      rw [e]; exact g2
    · cases a with
      | zero => exact ⟨h1, h2⟩
      | succ a => exact g3 a (by simp at ha ⊢; omega)
set_option maxHeartbeats 8000000 in
theorem l11Path_c (W : List Int) (E : List (List Int)) (h : GrF W E) (i k : Int) (hi : 0 ≤ i ∧ i < W.length) (hk : 0 ≤ k ∧ k < W.length) :
    AFn Try.prog 32 [.agg [.ints W, .intss E], .i i, .i k] (PfQ 2 (pf (nearL E) k W.length i (-1))) := by
  have hWn := h.n
  have hF := h.fo.fst
  have ho := l11Order_c W E h k hk
  (refine AFn.start Try.func32 Try.ntmps32 rfl (by kernel_rfl) fun hk => ?_; simp only [Env.start, enumF, List.length_cons, List.length_nil, Nat.reduceAdd, Nat.reduceSub, List.cons_append, List.nil_append])
  repeat' (first | (apply AOps.nil; try simp only [List.nil_append, List.cons_append, List.set_cons_zero, List.set_cons_succ, List.length_cons, List.length_nil, Nat.reduceAdd, AV.sh, AV.sh1, AV.sh0, AO.sh, List.map_cons, List.map_nil, Nat.zero_add, Nat.add_zero, setAll]) | (apply w_move; exact rfl; exact rfl) | (apply w_assign; exact rfl; exact rfl) | apply AWp.seq | apply AWp.region | (apply w_callc [] (ho); exact rfl; (exact handed0); (focus ((repeat (first | exact imu_nil | refine imu_cons rfl (imu_agg2 (.ints _) (.intss _)) ?_ | refine imu_cons rfl (.val _) ?_)); done)); rintro r os0 ⟨rfl, o, p, hT, rfl⟩; try simp only [List.nil_append, List.cons_append, List.set_cons_zero, List.set_cons_succ, List.length_cons, List.length_nil, Nat.reduceAdd, AV.sh, AV.sh1, AV.sh0, AO.sh, List.map_cons, List.map_nil, Nat.zero_add, Nat.add_zero, setAll]) | ((apply w_ext); iterate 3 exact rfl) | ((apply w_boxa); iterate 2 exact rfl) | (apply w_ldst; iterate 5 exact rfl))
  have hol := hT.bd
  have hpl := hT.len
  have hhas := l01Hs_c o i (by omega)
  by_cases hio : i ∈ o
  · rw [decide_eq_true hio] at hhas
    obtain ⟨U, u1, u2, u3, u4⟩ := up_ex hT hio
    rw [pf_eq hF hi hT u1 u2 u3]
    obtain ⟨g1, g2, g3⟩ := upw_at u1
    have hU0 : geti U 0 = i := by
      cases U with
      | nil => cases u2
      | cons a U => simp at u2; simp [geti, u2]
    repeat' (first | (apply AOps.nil; try simp only [List.nil_append, List.cons_append, List.set_cons_zero, List.set_cons_succ, List.length_cons, List.length_nil, Nat.reduceAdd, AV.sh, AV.sh1, AV.sh0, AO.sh, List.map_cons, List.map_nil, Nat.zero_add, Nat.add_zero, setAll]) | (apply w_move; exact rfl; exact rfl) | (apply w_assign; exact rfl; exact rfl) | apply AWp.seq | apply AWp.region | (apply AWp.condF; exact rfl) | apply AWp.block | apply AWp.skip | (apply w_call (hhas); exact rfl; exact rfl; focus ((repeat (first | exact im_nil | refine im_cons rfl (.val _) ?_ | refine im_cons rfl (.sli rfl) ?_)); done)) | ((first | apply w_not | apply w_bs1); iterate 2 exact rfl) | (apply inI_of <;> omega))
    refine AWp.loop (ι := Nat) (fun a => ⟨36, [(2, .i k), (8, .own 2), (9, .own 3), (10, .i (geti U (a : Nat)))]⟩) (fun a => [.bx 32 [.ints W, .intss E], .sli 2 o, .sli 2 p, .sli 2 (U.take (a + 1))]) (fun a => a < U.length) (fun a => U.length - a) 0 g1 ?_ ?_
    · have hT1 : U.take (0 + 1) = [i] := by
        cases U with
        | nil => cases u2
        | cons a U => simp at u2; simp [u2]
      rw [hT1]
      exact ⟨lee rfl (by (repeat (first | exact le_nil | refine le_eq rfl rfl ?_ | refine le_eq rfl (congrArg AV.i (hU0.symm)) ?_))), by (repeat (first | exact lo_nil | refine lo_eq rfl ?_)), rfl, rfl⟩
    intro a ha
    by_cases ha2 : a + 1 < U.length
    · obtain ⟨q1, q2⟩ := g3 a ha2
      have hrg := hT.rng _ (u3 _ (geti_mem (xs := U) (i := (a : Nat)) (by omega) (by omega)))
      have hrg2 := hT.rng _ (u3 _ (geti_mem (xs := U) (i := ((a + 1 : Nat) : Int)) (by omega) (by omega)))
      have e3 : geti p ((geti U (a : Nat)).toNat : Nat) = geti U ((a + 1 : Nat) : Int) := q2
      have e4 : U.take (a + 1) ++ [geti U ((a + 1 : Nat) : Int)] = U.take (a + 1 + 1) := by
        rw [List.take_succ_eq_append_getElem ha2]
        simp [geti, ha2]
      repeat' (first | (apply AOps.nil; try simp only [List.nil_append, List.cons_append, List.set_cons_zero, List.set_cons_succ, List.length_cons, List.length_nil, Nat.reduceAdd, AV.sh, AV.sh1, AV.sh0, AO.sh, List.map_cons, List.map_nil, Nat.zero_add, Nat.add_zero, setAll]) | (apply w_move; exact rfl; exact rfl) | (apply w_assign; exact rfl; exact rfl) | apply AWp.seq | apply AWp.region | ((apply AWp.condP; exact rfl) <;> intro h) | apply AWp.block | apply AWp.ret | apply AWp.exit | apply AWp.skip | omega | ((first | apply w_neq | apply w_idx | apply w_ld); iterate 3 exact rfl) | ((apply w_bs1); iterate 2 exact rfl) | (apply w_idxo; exact rfl; exact rfl; (exact .sli rfl); exact rfl) | (apply w_ldo; iterate 4 exact rfl) | (apply w_app; exact rfl; exact rfl; exact rfl; exact rfl; (exact .sli rfl); rotate_left 1; simp only [Env.mp, List.map_cons, List.map_nil, List.set_cons_zero, List.set_cons_succ, AV.kill, AV.kill1, AO.kill, AV.noRow, AV.noRow1, AO.via, reduceIte, Nat.reduceEqDiff, Nat.reduceLT, Env.up, Nat.zero_ne_one, Nat.one_ne_zero, Nat.reduceAdd, List.cons_append, List.nil_append]; rotate_left 1) | (apply inI_of <;> omega) | (simp <;> omega))
      rw [e3, e4]
      exact ⟨a + 1, by omega, by omega, ⟨lee rfl (by (repeat (first | exact le_nil | refine le_eq rfl rfl ?_))), by (repeat (first | exact lo_nil | refine lo_eq rfl ?_)), rfl, rfl⟩⟩
    · obtain rfl : a = U.length - 1 := by omega
      have e5 : U.take (U.length - 1 + 1) = U := List.take_of_length_le (by omega)
      rw [e5]
      repeat' (first | (apply AOps.nil; try simp only [List.nil_append, List.cons_append, List.set_cons_zero, List.set_cons_succ, List.length_cons, List.length_nil, Nat.reduceAdd, AV.sh, AV.sh1, AV.sh0, AO.sh, List.map_cons, List.map_nil, Nat.zero_add, Nat.add_zero, setAll]) | (apply w_move; exact rfl; exact rfl) | (apply w_assign; exact rfl; exact rfl) | apply AWp.seq | apply AWp.region | ((apply AWp.condP; exact rfl) <;> intro h) | apply AWp.block | apply AWp.ret | apply AWp.exit | apply AWp.skip | omega | ((apply w_neq); iterate 3 exact rfl))
      all_goals exact ⟨_, _, _, .v1 Try.results32 rfl, .sli rfl, rfl, rfl⟩
  · rw [decide_eq_false hio] at hhas
    rw [pf_no hF hT hio]
    repeat' (first | (apply AOps.nil; try simp only [List.nil_append, List.cons_append, List.set_cons_zero, List.set_cons_succ, List.length_cons, List.length_nil, Nat.reduceAdd, AV.sh, AV.sh1, AV.sh0, AO.sh, List.map_cons, List.map_nil, Nat.zero_add, Nat.add_zero, setAll]) | (apply w_assign; exact rfl; exact rfl) | apply AWp.seq | apply AWp.region | (apply AWp.condT; exact rfl) | apply AWp.ret | (apply w_call (hhas); exact rfl; exact rfl; focus ((repeat (first | exact im_nil | refine im_cons rfl (.val _) ?_ | refine im_cons rfl (.sli rfl) ?_)); done)) | ((apply w_not); iterate 2 exact rfl))
    all_goals exact ⟨_, _, _, .v1 Try.results32 rfl, .val _, rfl, rfl⟩
end Go.Proofs.Ytcolpjpppdmanaa
/-
  Components by labels: the number of roots tells whether all edges join two components. No condition.
-/
set_option linter.unusedSimpArgs false
set_option linter.unusedVariables false
namespace Go.Proofs.Ytcolpjpppdmanaa
open Go Go.RowKit

theorem geti_set0 {p : List Int} {u v x : Int} (h0 : 0 ≤ u) (hx : 0 ≤ x) (h1 : u < p.length) : geti (p.set u.toNat v) x = if x = u then v else geti p x := by
  simp only [geti, List.getD_eq_getElem?_getD, List.getElem?_set]
  by_cases e : x = u
  · subst e; rw [if_pos rfl, if_pos (by omega), if_pos rfl]; rfl
  · rw [if_neg (by omega), if_neg e]
def idL (n : Nat) : List Int := (List.range n).map fun (i : Nat) => (i : Int)
theorem idL_len (n : Nat) : (idL n).length = n := by simp [idL]
theorem idL_get {n : Nat} {x : Int} (h : 0 ≤ x ∧ x < n) : geti (idL n) x = x := by
  obtain ⟨m, rfl⟩ := Int.eq_ofNat_of_zero_le h.1
  have : m < n := by omega
  simp [geti, idL, List.getD_eq_getElem?_getD, this]
/-- The lesser label stays. -/
def mmL (L : List Int) (e : List Int) : List Int := mgL L (min (geti L (geti e 0)) (geti L (geti e 1))) (max (geti L (geti e 0)) (geti L (geti e 1)))
def lbR : List Int → List (List Int) → List Int
  | L, [] => L
  | L, e :: E => lbR (mmL L e) E
theorem lbR_app : ∀ (A B : List (List Int)) (L : List Int), lbR L (A ++ B) = lbR (lbR L A) B
  | [], _, _ => rfl
  | _ :: A, B, L => lbR_app A B _
structure RI (n : Nat) (L : List Int) : Prop where
  len : L.length = n
  lo : ∀ x : Int, 0 ≤ x → x < n → 0 ≤ geti L x
  hi : ∀ x : Int, 0 ≤ x → x < n → geti L x ≤ x
  idem : ∀ x : Int, 0 ≤ x → x < n → geti L (geti L x) = geti L x
theorem RI.id (n : Nat) : RI n (idL n) := ⟨idL_len n, fun x h0 h1 => by rw [idL_get ⟨h0, h1⟩]; exact h0, fun x h0 h1 => by rw [idL_get ⟨h0, h1⟩]; exact Int.le_refl _, fun x h0 h1 => by rw [idL_get ⟨h0, h1⟩, idL_get ⟨h0, h1⟩]⟩
def rcL (L : List Int) (i : Nat) : Nat := ((List.range i).filter fun x => decide (geti L (x : Nat) = (x : Nat))).length
theorem rc_id (n : Nat) : ∀ i, i ≤ n → rcL (idL n) i = i := fun i hi => by
  unfold rcL
  rw [List.filter_eq_self.2, List.length_range]
  intro x hx
  have := List.mem_range.1 hx
  exact decide_eq_true (idL_get ⟨by omega, by omega⟩)
theorem rc_succ (L : List Int) (i : Nat) : rcL L (i + 1) = rcL L i + if geti L (i : Nat) = (i : Nat) then 1 else 0 := by
  unfold rcL
  rw [List.range_succ, List.filter_append, List.length_append]
  congr 1
  by_cases h : geti L (i : Nat) = (i : Nat)
  · rw [if_pos h, List.filter_cons_of_pos (by exact decide_eq_true h)]; rfl
  · rw [if_neg h, List.filter_cons_of_neg (by simpa using h)]; rfl
/-- A merge of two roots. -/
theorem RI.merge {n : Nat} {L : List Int} (h : RI n L) {a b : Int} (ha : 0 ≤ a) (hab : a < b) (hb : b < n) (ra : geti L a = a) (rb : geti L b = b) :
    RI n (mgL L a b) ∧ ∀ i : Nat, i ≤ n → rcL (mgL L a b) i + (if b < i then 1 else 0) = rcL L i := by
  have hl := h.len
  have hg : ∀ x : Int, 0 ≤ x → x < n → geti (mgL L a b) x = if geti L x = b then a else geti L x := fun x h0 h1 => mgL_get h0 (by omega)
  refine ⟨⟨by rw [mgL_len]; exact hl, fun x h0 h1 => ?_, fun x h0 h1 => ?_, fun x h0 h1 => ?_⟩, ?_⟩
  · rw [hg x h0 h1]; split
    · exact ha
    · exact h.lo x h0 h1
  · rw [hg x h0 h1]; have := h.hi x h0 h1; split
    · omega
    · exact this
  · have l1 := h.lo x h0 h1
    have l2 := h.hi x h0 h1
    rw [hg x h0 h1]
    by_cases e : geti L x = b
    · rw [if_pos e, hg a ha (by omega), ra, if_neg (by omega)]
    · rw [if_neg e, hg _ l1 (by omega), h.idem x h0 h1, if_neg e]
  · intro i
    induction i with
    | zero => intro _; rw [if_neg (by omega)]; rfl
    | succ i ih =>
      intro hi
      have ih := ih (by omega)
      rw [rc_succ, rc_succ, hg (i : Nat) (by omega) (by omega)]
      by_cases e : (i : Int) = b
      · subst e
        rw [if_pos rb, if_neg (by omega), if_pos (by omega), if_pos rb]
        rw [if_neg (by omega)] at ih; omega
      · have e2 : (b < ((i + 1 : Nat) : Int)) ↔ (b < (i : Nat)) := by omega
        have e3 : ((if geti L (i : Nat) = b then a else geti L (i : Nat)) = (i : Nat)) ↔ geti L (i : Nat) = (i : Nat) := by
          by_cases e4 : geti L (i : Nat) = b
          · rw [if_pos e4]
            constructor
            · intro h5; rw [← h5, ra] at e4; omega
            · intro h5; omega
          · rw [if_neg e4]
        simp only [e2, e3]; omega
theorem mgL_self (L : List Int) (a : Int) : mgL L a a = L := by
  unfold mgL
  conv => rhs; rw [← List.map_id L]
  apply List.map_congr_left
  intro x _
  split
  · rename_i h; exact h.symm
  · rfl
theorem RI.mm {n : Nat} {L : List Int} (h : RI n L) {e : List Int} (he : EIn n e) :
    RI n (mmL L e) ∧ rcL (mmL L e) n + (if geti L (geti e 0) = geti L (geti e 1) then 0 else 1) = rcL L n := by
  obtain ⟨_, e2, e3, e4⟩ := he
  have l1 := h.lo _ e2 (by omega)
  have l2 := h.hi _ e2 (by omega)
  have l3 := h.lo (geti e 1) (by omega) e4
  have l4 := h.hi (geti e 1) (by omega) e4
  have i1 := h.idem _ e2 (by omega)
  have i2 := h.idem (geti e 1) (by omega) e4
  unfold mmL
  generalize geti L (geti e 0) = a at *
  generalize geti L (geti e 1) = b at *
  rcases Int.lt_trichotomy a b with hab | hab | hab
  · rw [Int.min_eq_left (by omega), Int.max_eq_right (by omega)]
    obtain ⟨q1, q2⟩ := h.merge l1 hab (by omega) i1 i2
    have := q2 n (Nat.le_refl _)
    rw [if_pos (by omega)] at this
    exact ⟨q1, by rw [if_neg (by omega)]; exact this⟩
  · subst hab
    rw [Int.min_self, Int.max_self, mgL_self]
    exact ⟨h, by rw [if_pos rfl]; rfl⟩
  · rw [Int.min_eq_right (by omega), Int.max_eq_left (by omega)]
    obtain ⟨q1, q2⟩ := h.merge l3 hab (by omega) i2 i1
    have := q2 n (Nat.le_refl _)
    rw [if_pos (by omega)] at this
    exact ⟨q1, by rw [if_neg (by omega)]; exact this⟩
/-- Two labellings tell the same vertices apart. -/
def Same (n : Nat) (L M : List Int) : Prop := ∀ x y : Int, 0 ≤ x → x < n → 0 ≤ y → y < n → (geti L x = geti L y ↔ geti M x = geti M y)
theorem mg_eq {L : List Int} {a b : Int} {u v : Int} (hu : 0 ≤ u ∧ u < L.length) (hv : 0 ≤ v ∧ v < L.length) :
    geti (mgL L a b) u = geti (mgL L a b) v ↔ (geti L u = geti L v ∨ ((geti L u = a ∨ geti L u = b) ∧ (geti L v = a ∨ geti L v = b))) := by
  rw [mgL_get hu.1 hu.2, mgL_get hv.1 hv.2]
  by_cases h1 : geti L u = b <;> by_cases h2 : geti L v = b <;> simp only [h1, h2, if_true, if_false, or_true, or_false, true_and, false_or, and_true, iff_true, true_iff] <;> omega
theorem mm_eq {n : Nat} {L : List Int} {e : List Int} (hl : L.length = n) {u v : Int} (hu : 0 ≤ u ∧ u < n) (hv : 0 ≤ v ∧ v < n) :
    geti (mmL L e) u = geti (mmL L e) v ↔ (geti L u = geti L v ∨ ((geti L u = geti L (geti e 0) ∨ geti L u = geti L (geti e 1)) ∧ (geti L v = geti L (geti e 0) ∨ geti L v = geti L (geti e 1)))) := by
  unfold mmL
  rw [mg_eq (by omega) (by omega)]
  rcases Int.le_total (geti L (geti e 0)) (geti L (geti e 1)) with h | h
  · rw [Int.min_eq_left h, Int.max_eq_right h]
  · rw [Int.min_eq_right h, Int.max_eq_left h]; constructor <;> (intro h; rcases h with h | ⟨h1, h2⟩) <;> simp_all [or_comm]
theorem Same.step {n : Nat} {L M : List Int} (h : Same n L M) (hl : L.length = n) (hm : M.length = n) {e : List Int} (he : EIn n e) :
    Same n (mmL L e) (mgL M (geti M (geti e 0)) (geti M (geti e 1))) := by
  obtain ⟨_, e2, e3, e4⟩ := he
  intro x y h0 h1 h2 h3
  rw [mm_eq hl ⟨h0, h1⟩ ⟨h2, h3⟩, mg_eq (by omega) (by omega), h x y h0 h1 h2 h3, h x _ h0 h1 e2 (by omega), h x (geti e 1) h0 h1 (by omega) e4, h y _ h2 h3 e2 (by omega), h y (geti e 1) h2 h3 (by omega) e4]
theorem rc_run {n : Nat} : ∀ {E : List (List Int)} {L M : List Int}, RI n L → Same n L M → M.length = n → (∀ e ∈ E, EIn n e) →
    RI n (lbR L E) ∧ rcL L n ≤ rcL (lbR L E) n + E.length ∧ (rcL (lbR L E) n + E.length = rcL L n ↔ effL M E)
  | [], L, M, h, _, _, _ => ⟨h, by simp [lbR], by simp [lbR, effL]⟩
  | e :: E, L, M, h, hs, hm, hE => by
    have he := hE e (by simp)
    obtain ⟨q1, q2⟩ := h.mm he
    obtain ⟨_, e2, e3, e4⟩ := id he
    have hsame := hs (geti e 0) (geti e 1) e2 (by omega) (by omega) e4
    obtain ⟨r1, r2, r3⟩ := rc_run (E := E) q1 (hs.step h.len hm he) (by rw [mgL_len]; exact hm) fun f hf => hE f (by simp [hf])
    refine ⟨r1, ?_, ?_⟩
    · show rcL L n ≤ rcL (lbR (mmL L e) E) n + (E.length + 1)
      split at q2 <;> omega
    · show rcL (lbR (mmL L e) E) n + (E.length + 1) = rcL L n ↔ (geti M (geti e 0) ≠ geti M (geti e 1) ∧ effL _ E)
      rw [← r3]
      constructor
      · intro h5
        have h6 : ¬ geti L (geti e 0) = geti L (geti e 1) := by
          intro h7; rw [if_pos h7] at q2; omega
        rw [if_neg h6] at q2
        exact ⟨fun h8 => h6 (hsame.2 h8), by omega⟩
      · rintro ⟨h5, h6⟩
        rw [if_neg (fun h8 => h5 (hsame.1 h8))] at q2
        omega
/-- The new numbers. -/
def nmF (L : List Int) : Nat → List Int × Int
  | 0 => (L, 0)
  | i + 1 => if geti (nmF L i).1 (i : Nat) = (i : Nat) then ((nmF L i).1.set i (nmF L i).2, (nmF L i).2 + 1) else ((nmF L i).1.set i (geti (nmF L i).1 (geti (nmF L i).1 (i : Nat))), (nmF L i).2)
structure NmI (n : Nat) (L : List Int) (i : Nat) (s : List Int × Int) : Prop where
  len : s.1.length = n
  num : s.2 = rcL L i
  old : ∀ x : Int, (i : Int) ≤ x → geti s.1 x = geti L x
  lo : ∀ x : Int, 0 ≤ x → x < i → 0 ≤ geti s.1 x
  hi : ∀ x : Int, 0 ≤ x → x < i → geti s.1 x < s.2
  top : 0 < i → ∃ x : Int, 0 ≤ x ∧ x < i ∧ geti s.1 x = s.2 - 1
theorem nm_run {n : Nat} {L : List Int} (h : RI n L) : ∀ i, i ≤ n → NmI n L i (nmF L i)
  | 0, _ => ⟨h.len, by simp [nmF, rcL], fun _ _ => rfl, fun x h0 h1 => by omega, fun x h0 h1 => by omega, fun h => by omega⟩
  | i + 1, hi => by
    have ih := nm_run h i (by omega)
    have hr := rc_succ L i
    have ho := ih.old (i : Nat) (Int.le_refl _)
    have hl := ih.len
    have hnum := ih.num
    have l1 := h.lo (i : Nat) (by omega) (by omega)
    have l2 := h.hi (i : Nat) (by omega) (by omega)
    rw [nmF]
    have hset : ∀ v x : Int, 0 ≤ x → geti ((nmF L i).1.set i v) x = if x = (i : Nat) then v else geti (nmF L i).1 x := fun v x hx => by
      have := geti_set0 (p := (nmF L i).1) (u := (i : Nat)) (v := v) (x := x) (by omega) hx (by omega)
      simpa using this
    rw [ho]
    by_cases hc : geti L (i : Nat) = (i : Nat)
    · rw [if_pos hc] at hr ⊢
      refine ⟨by simp [hl], by simp only; omega, fun x hx => ?_, fun x h0 h1 => ?_, fun x h0 h1 => ?_, fun _ => ⟨(i : Nat), by omega, by omega, ?_⟩⟩
      · rw [hset _ _ (by omega), if_neg (by omega)]; exact ih.old x (by omega)
      · rw [hset _ _ h0]; split
        · omega
        · exact ih.lo x h0 (by omega)
      · rw [hset _ _ h0]; dsimp only; split
        · omega
        · have := ih.hi x h0 (by omega); omega
      · rw [hset _ _ (by omega), if_pos rfl]; dsimp only; omega
    · rw [if_neg hc] at hr ⊢
      have h3 : geti L (i : Nat) < (i : Nat) := by omega
      have g1 := ih.lo _ l1 h3
      have g2 := ih.hi _ l1 h3
      refine ⟨by simp [hl], by simp only; omega, fun x hx => ?_, fun x h0 h1 => ?_, fun x h0 h1 => ?_, fun _ => ?_⟩
      · rw [hset _ _ (by omega), if_neg (by omega)]; exact ih.old x (by omega)
      · rw [hset _ _ h0]; split
        · exact g1
        · exact ih.lo x h0 (by omega)
      · rw [hset _ _ h0]; dsimp only; split
        · exact g2
        · exact ih.hi x h0 (by omega)
      · obtain ⟨x, x0, x1, x2⟩ := ih.top (by omega)
        exact ⟨x, x0, by omega, by rw [hset _ _ x0, if_neg (by omega)]; exact x2⟩
/-- The labels of the components. -/
def labF (n : Nat) (E : List (List Int)) : List Int := (nmF (lbR (idL n) E) n).1
theorem lab_max {n : Nat} {E : List (List Int)} (hn : 0 < n) (hE : ∀ e ∈ E, EIn n e) :
    (labF n E).length = n ∧ ∃ m : Int, (∀ x ∈ labF n E, 0 ≤ x ∧ x ≤ m) ∧ m ∈ labF n E ∧ 0 ≤ m ∧ m < n ∧ (m + 1 + E.length = n ↔ effL (idL n) E) := by
  obtain ⟨r1, r2, r3⟩ := rc_run (E := E) (RI.id n) (M := idL n) (fun _ _ _ _ _ _ => Iff.rfl) (idL_len n) hE
  rw [rc_id n n (Nat.le_refl _)] at r2 r3
  have h := nm_run r1 n (Nat.le_refl _)
  have hnum := h.num
  unfold labF
  obtain ⟨x, x0, x1, x2⟩ := h.top hn
  have hx := h.lo x x0 x1
  have hle : rcL (lbR (idL n) E) n ≤ n := by
    unfold rcL
    exact Nat.le_trans (List.length_filter_le _ _) (by simp)
  have hl := h.len
  refine ⟨h.len, (nmF (lbR (idL n) E) n).2 - 1, fun y hy => ?_, ?_, by omega, by omega, ?_⟩
  · obtain ⟨k, hk, rfl⟩ := List.getElem_of_mem hy
    have e : geti (nmF (lbR (idL n) E) n).1 (k : Nat) = (nmF (lbR (idL n) E) n).1[k] := by simp [geti, List.getD_eq_getElem?_getD, List.getElem?_eq_getElem hk]
    have a1 := h.lo (k : Nat) (by omega) (by omega)
    have a2 := h.hi (k : Nat) (by omega) (by omega)
    omega
  · rw [← x2]
    have hk : x.toNat < (nmF (lbR (idL n) E) n).1.length := by omega
    simp only [geti, List.getD_eq_getElem?_getD, List.getElem?_eq_getElem hk, Option.getD_some]
    exact List.getElem_mem hk
  · rw [← r3]; omega
end Go.Proofs.Ytcolpjpppdmanaa
/-
  Labels of components, walked. Condition: edges of at most 40 vertices.
-/
namespace Go.Proofs.Ytcolpjpppdmanaa
open Go Go.RowKit
attribute [local irreducible] AWp AOps ResIs Ret1 QOp LOp COp AFnV AFn Imms LeE LeO
set_option maxHeartbeats 1000000
set_option linter.unusedSimpArgs false
set_option linter.unusedVariables false

/-- A merge that is under way. -/
def mgT (L : List Int) (a b : Int) (i : Nat) : List Int := mgL (L.take i) a b ++ L.drop i
theorem mgT_len (L : List Int) (a b : Int) (i : Nat) : (mgT L a b i).length = L.length := by
  unfold mgT; rw [List.length_append, mgL_len, List.length_take, List.length_drop]; omega
theorem mgT_at {L : List Int} {a b : Int} {i : Nat} (h : i < L.length) : geti (mgT L a b i) (i : Nat) = geti L (i : Nat) := by
  unfold mgT geti
  rw [List.getD_eq_getElem?_getD, List.getD_eq_getElem?_getD, List.getElem?_append_right (by rw [mgL_len, List.length_take]; omega), mgL_len, List.length_take, List.getElem?_drop]
  congr 2; omega
theorem mgT_eq {L : List Int} {a b : Int} {i : Nat} (h : i < L.length) : mgT L a b (i + 1) = (mgT L a b i).set i (if geti L (i : Nat) = b then a else geti L (i : Nat)) := by
  have e1 : L.take (i + 1) = L.take i ++ [geti L (i : Nat)] := take_geti h
  have e2 : L.drop i = geti L (i : Nat) :: L.drop (i + 1) := by rw [List.drop_eq_getElem_cons h]; simp [geti, List.getD_eq_getElem?_getD, List.getElem?_eq_getElem h]
  have e3 : (mgL (L.take i) a b).length = i := by rw [mgL_len, List.length_take]; omega
  unfold mgT
  rw [e1, e2]
  unfold mgL
  rw [List.map_append, List.append_assoc, List.set_append_right _ _ (by rw [List.length_map, List.length_take]; omega)]
  congr 1
  rw [List.length_map, List.length_take, show i - min i L.length = 0 by omega]
  rfl
theorem mgT_all (L : List Int) (a b : Int) : mgT L a b L.length = mgL L a b := by unfold mgT; rw [List.take_length, List.drop_length, List.append_nil]
theorem set_same {L : List Int} {i : Nat} : L.set i (geti L (i : Nat)) = L := by
  apply List.ext_getElem?
  intro k
  rw [List.getElem?_set]
  split
  · rename_i h; subst h
    split
    · rename_i h; simp [geti, List.getD_eq_getElem?_getD, List.getElem?_eq_getElem h]
    · rename_i h; rw [List.getElem?_eq_none (by omega)]
  · rfl
def idT (n i : Nat) : List Int := (List.range n).map fun (j : Nat) => if j < i then (j : Int) else 0
theorem idT_len (n i : Nat) : (idT n i).length = n := by simp [idT]
theorem idT_step (n i : Nat) : (idT n i).set i (i : Nat) = idT n (i + 1) := by
  apply List.ext_getElem?
  intro k
  rw [List.getElem?_set, idT_len]
  simp only [idT, List.getElem?_map]
  by_cases hk : k < n
  · rw [List.getElem?_range hk]
    by_cases e : i = k
    · subst e
      simp [hk]
    · simp only [e, if_false, Option.map_some]
      congr 1
      by_cases h1 : k < i
      · rw [if_pos h1, if_pos (by omega)]
      · rw [if_neg h1, if_neg (by omega)]
  · rw [List.getElem?_eq_none (by simpa using hk)]
    split
    · rw [if_neg (by omega)]; rfl
    · rfl
theorem idT_0 (n : Nat) : idT n 0 = List.replicate n 0 := by
  apply List.ext_getElem (by simp [idT])
  intro i h1 h2
  simp [idT]
theorem idT_n (n : Nat) : idT n n = idL n := by
  unfold idT idL
  apply List.map_congr_left
  intro x hx
  rw [if_pos (List.mem_range.1 hx)]

set_option maxHeartbeats 16000000 in
theorem labels_c (n : Nat) (E : List (List Int)) (hn : n ≤ 40) (hl : E.length ≤ 40) (hE : ∀ e ∈ E, EIn n e) : AFn Try.prog 37 [.i n, .intss E] (IsInts 2 (labF n E)) := by
  have hri : ∀ k, k ≤ E.length → RI n (lbR (idL n) (E.take k)) := fun k hk => (rc_run (RI.id n) (M := idL n) (fun _ _ _ _ _ _ => Iff.rfl) (idL_len n) (E := E.take k) fun e he => hE e (List.mem_of_mem_take he)).1
  (refine AFn.start Try.func37 Try.ntmps37 rfl (by kernel_rfl) fun hk => ?_; simp only [Env.start, enumF, List.length_cons, List.length_nil, Nat.reduceAdd, Nat.reduceSub, List.cons_append, List.nil_append])
  repeat' (first | (apply AOps.nil; try simp only [List.nil_append, List.cons_append, List.set_cons_zero, List.set_cons_succ, List.length_cons, List.length_nil, Nat.reduceAdd, AV.sh, AV.sh1, AV.sh0, AO.sh, List.map_cons, List.map_nil, Nat.zero_add, Nat.add_zero, setAll]) | (apply w_move; exact rfl; exact rfl) | (apply w_assign; exact rfl; exact rfl) | apply AWp.seq | apply AWp.region | apply AWp.block | (apply w_len; exact rfl; exact rfl; first | exact .ints _ | exact .intss _ | exact .sli rfl | exact .sls rfl | exact .slr rfl | exact .orow rfl | exact .nil) | omega | (apply w_mki; exact rfl; exact rfl; rotate_left 3; exact rfl; rotate_left 1))
  rw [Int.toNat_natCast, ← idT_0, idT_len]
  refine AWp.loop (ι := Nat) (fun i => ⟨104, [(1, .intss E), (5, .own 0), (17, .i n), (18, .i i)]⟩) (fun i => [.sli 2 (idT n i)]) (fun i => i ≤ n) (fun i => n - i) 0 (by omega) ⟨lee rfl (by (repeat (first | exact le_nil | refine le_eq rfl rfl ?_))), by (repeat (first | exact lo_nil | refine lo_eq rfl ?_)), rfl, rfl⟩ ?_
  intro i i0
  have il := idT_len n i
  have is := idT_step n i
  by_cases hi : i < n
  · generalize idT n i = L at *
    repeat' (first | (apply AOps.nil; try simp only [List.nil_append, List.cons_append, List.set_cons_zero, List.set_cons_succ, List.length_cons, List.length_nil, Nat.reduceAdd, AV.sh, AV.sh1, AV.sh0, AO.sh, List.map_cons, List.map_nil, Nat.zero_add, Nat.add_zero, setAll]) | (apply w_move; exact rfl; exact rfl) | (apply w_assign; exact rfl; exact rfl) | apply AWp.seq | apply AWp.region | ((apply AWp.condP; exact rfl) <;> intro h) | apply AWp.block | apply AWp.exit | apply AWp.skip | (apply w_len; exact rfl; exact rfl; first | exact .ints _ | exact .intss _ | exact .sli rfl | exact .sls rfl | exact .slr rfl | exact .orow rfl | exact .nil) | omega | ((first | apply w_lss | apply w_add | apply w_idx); iterate 3 exact rfl) | (apply w_idxo; exact rfl; exact rfl; (exact .sli rfl); exact rfl) | (apply w_sti; exact rfl; exact rfl; rotate_left 1; exact rfl; rotate_left 2) | (apply inI_of <;> omega))
    exact ⟨i + 1, by omega, by omega, by rw [← is]; exact ⟨lee rfl (by (repeat (first | exact le_nil | refine le_eq rfl rfl ?_))), by (repeat (first | exact lo_nil | refine lo_eq rfl ?_)), rfl, rfl⟩⟩
  have ei : i = n := by omega
  subst ei
  rw [idT_n] at il ⊢
  repeat' (first | (apply AOps.nil; try simp only [List.nil_append, List.cons_append, List.set_cons_zero, List.set_cons_succ, List.length_cons, List.length_nil, Nat.reduceAdd, AV.sh, AV.sh1, AV.sh0, AO.sh, List.map_cons, List.map_nil, Nat.zero_add, Nat.add_zero, setAll]) | (apply w_move; exact rfl; exact rfl) | (apply w_assign; exact rfl; exact rfl) | apply AWp.seq | apply AWp.region | ((apply AWp.condP; exact rfl) <;> intro h) | apply AWp.block | apply AWp.exit | apply AWp.skip | (apply w_len; exact rfl; exact rfl; first | exact .ints _ | exact .intss _ | exact .sli rfl | exact .sls rfl | exact .slr rfl | exact .orow rfl | exact .nil) | omega | ((apply w_lss); iterate 3 exact rfl))
  refine AWp.loop (ι := Nat) (fun k => ⟨104, [(5, .own 0), (26, .intss E), (27, .i E.length), (28, .i k)]⟩) (fun k => [.sli 2 (lbR (idL i) (E.take k))]) (fun k => k ≤ E.length) (fun k => E.length - k) 0 (by omega) ⟨lee rfl (by (repeat (first | exact le_nil | refine le_eq rfl rfl ?_))), by (repeat (first | exact lo_nil | refine lo_eq rfl ?_)), rfl, rfl⟩ ?_
  intro k k0
  have hr := hri k k0
  have rl := hr.len
  by_cases hk : k < E.length
  · obtain ⟨a1, a2, a3, a4⟩ := hE (gets E (k : Nat)) (gets_mem (by omega) (by omega))
    have et : lbR (idL i) (E.take (k + 1)) = mmL (lbR (idL i) (E.take k)) (gets E (k : Nat)) := by
      rw [List.take_succ_eq_append_getElem hk, lbR_app]; simp [gets, hk, lbR]
    have hx1 : ∀ x : Int, 0 ≤ x → x < i → 0 ≤ geti (lbR (idL i) (E.take k)) x := hr.lo
    rw [show mmL (lbR (idL i) (E.take k)) (gets E (k : Nat)) = mgL (lbR (idL i) (E.take k)) (min (geti (lbR (idL i) (E.take k)) (geti (gets E (k : Nat)) 0)) (geti (lbR (idL i) (E.take k)) (geti (gets E (k : Nat)) 1))) (max (geti (lbR (idL i) (E.take k)) (geti (gets E (k : Nat)) 0)) (geti (lbR (idL i) (E.take k)) (geti (gets E (k : Nat)) 1))) from rfl] at et
    generalize lbR (idL i) (E.take k) = L at *
    repeat' (first | (apply AOps.nil; try simp only [List.nil_append, List.cons_append, List.set_cons_zero, List.set_cons_succ, List.length_cons, List.length_nil, Nat.reduceAdd, AV.sh, AV.sh1, AV.sh0, AO.sh, List.map_cons, List.map_nil, Nat.zero_add, Nat.add_zero, setAll]) | (apply w_move; exact rfl; exact rfl) | (apply w_assign; exact rfl; exact rfl) | apply AWp.seq | apply AWp.region | ((apply AWp.condP; exact rfl) <;> intro h) | apply AWp.block | apply AWp.exit | apply AWp.skip | (apply w_len; exact rfl; exact rfl; first | exact .ints _ | exact .intss _ | exact .sli rfl | exact .sls rfl | exact .slr rfl | exact .orow rfl | exact .nil) | omega | ((first | apply w_lss | apply w_idx | apply w_ld); iterate 3 exact rfl) | ((first | apply w_idxs | apply w_lds); iterate 3 exact rfl))
    generalize gets E (k : Nat) = e at *
    obtain ⟨a, ea⟩ : ∃ a, a = min (geti L (geti e 0)) (geti L (geti e 1)) := ⟨_, rfl⟩
    obtain ⟨b, eb⟩ : ∃ b, b = max (geti L (geti e 0)) (geti L (geti e 1)) := ⟨_, rfl⟩
    have y1 := hr.lo _ a2 (by omega)
    have y2 := hr.hi _ a2 (by omega)
    have y3 := hr.lo (geti e 1) (by omega) a4
    have y4 := hr.hi (geti e 1) (by omega) a4
    have am : 0 ≤ a ∧ a < i := by omega
    refine AWp.regionG [] (by kernel_rfl) (envC := ⟨104, [(5, .own 0), (9, .i a), (10, .i b), (26, .intss E), (27, .i E.length), (28, .i k)]⟩) (osC := [.sli 2 L]) rfl rfl ?_ ?_
    · rw [ea, eb]
      repeat' (first | (apply AOps.nil; try simp only [List.nil_append, List.cons_append, List.set_cons_zero, List.set_cons_succ, List.length_cons, List.length_nil, Nat.reduceAdd, AV.sh, AV.sh1, AV.sh0, AO.sh, List.map_cons, List.map_nil, Nat.zero_add, Nat.add_zero, setAll]) | (apply w_move; exact rfl; exact rfl) | (apply w_assign; exact rfl; exact rfl) | (apply AAnyG.takeW; exact rfl; exact rfl; kernel_rfl; kernel_rfl) | (apply AAnyG.takeL; exact rfl; exact rfl; kernel_rfl) | (apply AAnyG.done; exact rfl) | omega | ((first | apply w_idx | apply w_ld | apply w_min | apply w_max); iterate 3 exact rfl) | (apply w_idxo; exact rfl; exact rfl; (exact .sli rfl); exact rfl) | (apply w_ldo; iterate 4 exact rfl))
      all_goals (apply Or.inl; refine ⟨lee rfl ?_, ?_, rfl, rfl⟩; (focus ((repeat (first | exact le_nil | refine le_eq rfl rfl ?_)); done)); (focus ((repeat (first | exact lo_nil | refine lo_eq rfl ?_)); done)))
    rw [← ea, ← eb] at et
    clear ea eb
    repeat' (first | (apply AOps.nil; try simp only [List.nil_append, List.cons_append, List.set_cons_zero, List.set_cons_succ, List.length_cons, List.length_nil, Nat.reduceAdd, AV.sh, AV.sh1, AV.sh0, AO.sh, List.map_cons, List.map_nil, Nat.zero_add, Nat.add_zero, setAll]) | (apply w_move; exact rfl; exact rfl) | apply AWp.seq | apply AWp.region | apply AWp.block | (apply w_len; exact rfl; exact rfl; first | exact .ints _ | exact .intss _ | exact .sli rfl | exact .sls rfl | exact .slr rfl | exact .orow rfl | exact .nil))
    rw [rl]
    refine AWp.loop (ι := Nat) (fun j => ⟨104, [(5, .own 0), (9, .i a), (10, .i b), (26, .intss E), (27, .i E.length), (28, .i k), (59, .i i), (60, .i j)]⟩) (fun j => [.sli 2 (mgT L a b j)]) (fun j => j ≤ i) (fun j => i - j) 0 (by omega) ⟨lee rfl (by (repeat (first | exact le_nil | refine le_eq rfl rfl ?_))), by (repeat (first | exact lo_nil | refine lo_eq rfl ?_)), rfl, rfl⟩ ?_
    intro j j0
    have ml := mgT_len L a b j
    by_cases hj : j < i
    · have m1 := mgT_at (L := L) (a := a) (b := b) (i := j) (by omega)
      have m2 := mgT_eq (L := L) (a := a) (b := b) (i := j) (by omega)
      rw [← m1] at m2
      generalize mgT L a b j = M at *
      have ej : geti M ((((j : Nat) : Int)).toNat : Nat) = geti M (j : Nat) := by rw [Int.toNat_natCast]
      by_cases hc : geti M (j : Nat) = b
      · rw [if_pos hc] at m2
        repeat' (first | (apply AOps.nil; try simp only [List.nil_append, List.cons_append, List.set_cons_zero, List.set_cons_succ, List.length_cons, List.length_nil, Nat.reduceAdd, AV.sh, AV.sh1, AV.sh0, AO.sh, List.map_cons, List.map_nil, Nat.zero_add, Nat.add_zero, setAll]) | (apply w_move; exact rfl; exact rfl) | (apply w_assign; exact rfl; exact rfl) | apply AWp.seq | apply AWp.region | ((apply AWp.condP; exact rfl) <;> intro h) | apply AWp.block | apply AWp.exit | apply AWp.skip | omega | ((first | apply w_lss | apply w_eql | apply w_add | apply w_idx | apply w_ld); iterate 3 exact rfl) | (apply w_idxo; exact rfl; exact rfl; (exact .sli rfl); exact rfl) | (apply w_ldo; iterate 4 exact rfl) | (apply w_sti; exact rfl; exact rfl; rotate_left 1; exact rfl; rotate_left 2) | (apply inI_of <;> omega))
        exact ⟨j + 1, by omega, by omega, by rw [m2]; exact ⟨lee rfl (by (repeat (first | exact le_nil | refine le_eq rfl rfl ?_))), by (repeat (first | exact lo_nil | refine lo_eq rfl ?_)), rfl, rfl⟩⟩
      · rw [if_neg hc, set_same] at m2
        repeat' (first | (apply AOps.nil; try simp only [List.nil_append, List.cons_append, List.set_cons_zero, List.set_cons_succ, List.length_cons, List.length_nil, Nat.reduceAdd, AV.sh, AV.sh1, AV.sh0, AO.sh, List.map_cons, List.map_nil, Nat.zero_add, Nat.add_zero, setAll]) | (apply w_move; exact rfl; exact rfl) | (apply w_assign; exact rfl; exact rfl) | apply AWp.seq | apply AWp.region | ((apply AWp.condP; exact rfl) <;> intro h) | apply AWp.block | apply AWp.exit | apply AWp.skip | omega | ((first | apply w_lss | apply w_eql | apply w_add | apply w_idx | apply w_ld); iterate 3 exact rfl) | (apply w_idxo; exact rfl; exact rfl; (exact .sli rfl); exact rfl) | (apply w_ldo; iterate 4 exact rfl) | (apply inI_of <;> omega))
        exact ⟨j + 1, by omega, by omega, by rw [m2]; exact ⟨lee rfl (by (repeat (first | exact le_nil | refine le_eq rfl rfl ?_))), by (repeat (first | exact lo_nil | refine lo_eq rfl ?_)), rfl, rfl⟩⟩
    · have ej : j = L.length := by omega
      rw [ej, mgT_all, ← et]
      repeat' (first | (apply AOps.nil; try simp only [List.nil_append, List.cons_append, List.set_cons_zero, List.set_cons_succ, List.length_cons, List.length_nil, Nat.reduceAdd, AV.sh, AV.sh1, AV.sh0, AO.sh, List.map_cons, List.map_nil, Nat.zero_add, Nat.add_zero, setAll]) | (apply w_move; exact rfl; exact rfl) | (apply w_assign; exact rfl; exact rfl) | apply AWp.seq | apply AWp.region | ((apply AWp.condP; exact rfl) <;> intro h) | apply AWp.block | apply AWp.exit | apply AWp.skip | omega | ((first | apply w_lss | apply w_add); iterate 3 exact rfl) | (apply inI_of <;> omega))
      exact ⟨k + 1, by omega, by omega, ⟨lee rfl (by (repeat (first | exact le_nil | refine le_eq rfl rfl ?_))), by (repeat (first | exact lo_nil | refine lo_eq rfl ?_)), rfl, rfl⟩⟩
  · have ek : k = E.length := by omega
    subst ek
    rw [List.take_length]
    rw [List.take_length] at hr rl
    have hnm := nm_run hr
    have hlab : labF i E = (nmF (lbR (idL i) E) i).1 := rfl
    have hrc : ∀ m, rcL (lbR (idL i) E) m ≤ m := fun m => by
      unfold rcL
      exact Nat.le_trans (List.length_filter_le _ _) (by simp)
    repeat' (first | (apply AOps.nil; try simp only [List.nil_append, List.cons_append, List.set_cons_zero, List.set_cons_succ, List.length_cons, List.length_nil, Nat.reduceAdd, AV.sh, AV.sh1, AV.sh0, AO.sh, List.map_cons, List.map_nil, Nat.zero_add, Nat.add_zero, setAll]) | (apply w_move; exact rfl; exact rfl) | (apply w_assign; exact rfl; exact rfl) | apply AWp.seq | apply AWp.region | ((apply AWp.condP; exact rfl) <;> intro h) | apply AWp.block | apply AWp.exit | apply AWp.skip | (apply w_len; exact rfl; exact rfl; first | exact .ints _ | exact .intss _ | exact .sli rfl | exact .sls rfl | exact .slr rfl | exact .orow rfl | exact .nil) | omega | ((apply w_lss); iterate 3 exact rfl))
    rw [rl]
    generalize lbR (idL i) E = L at *
    refine AWp.loop (ι := Nat) (fun j => ⟨104, [(5, .own 0), (12, .i (nmF L j).2), (76, .i i), (77, .i j)]⟩) (fun j => [.sli 2 (nmF L j).1]) (fun j => j ≤ i) (fun j => i - j) 0 (by omega) ⟨lee rfl (by (repeat (first | exact le_nil | refine le_eq rfl rfl ?_))), by (repeat (first | exact lo_nil | refine lo_eq rfl ?_)), rfl, rfl⟩ ?_
    intro j j0
    have hm := hnm j j0
    have m1 := hm.len
    have m2 := hm.num
    have m3 := hrc j
    by_cases hj : j < i
    · have m4 := hm.old (j : Nat) (Int.le_refl _)
      have m5 := hr.lo (j : Nat) (by omega) (by omega)
      have m6 := hr.hi (j : Nat) (by omega) (by omega)
      have es : nmF L (j + 1) = if geti (nmF L j).1 (j : Nat) = (j : Nat) then ((nmF L j).1.set j (nmF L j).2, (nmF L j).2 + 1) else ((nmF L j).1.set j (geti (nmF L j).1 (geti (nmF L j).1 (j : Nat))), (nmF L j).2) := rfl
      rw [← m4] at m5 m6
      generalize nmF L j = s at *
      obtain ⟨M, q⟩ := s
      simp only at m1 m2 m5 m6 es
      have ej : geti M ((((j : Nat) : Int)).toNat : Nat) = geti M (j : Nat) := by rw [Int.toNat_natCast]
      by_cases hc : geti M (j : Nat) = (j : Nat)
      · rw [if_pos hc] at es
        repeat' (first | (apply AOps.nil; try simp only [List.nil_append, List.cons_append, List.set_cons_zero, List.set_cons_succ, List.length_cons, List.length_nil, Nat.reduceAdd, AV.sh, AV.sh1, AV.sh0, AO.sh, List.map_cons, List.map_nil, Nat.zero_add, Nat.add_zero, setAll]) | (apply w_move; exact rfl; exact rfl) | (apply w_assign; exact rfl; exact rfl) | apply AWp.seq | apply AWp.region | ((apply AWp.condP; exact rfl) <;> intro h) | apply AWp.block | apply AWp.ret | apply AWp.exit | apply AWp.skip | omega | ((first | apply w_lss | apply w_eql | apply w_add | apply w_idx | apply w_ld); iterate 3 exact rfl) | (apply w_idxo; exact rfl; exact rfl; (exact .sli rfl); exact rfl) | (apply w_ldo; iterate 4 exact rfl) | (apply w_sti; exact rfl; exact rfl; rotate_left 1; exact rfl; rotate_left 2) | (apply inI_of <;> omega))
        exact ⟨j + 1, by omega, by omega, by rw [es]; exact ⟨lee rfl (by (repeat (first | exact le_nil | refine le_eq rfl rfl ?_))), by (repeat (first | exact lo_nil | refine lo_eq rfl ?_)), rfl, rfl⟩⟩
      · have n1 : 0 ≤ geti M (geti M (j : Nat)) := hm.lo (geti M (j : Nat)) m5 (by omega)
        have n2 : geti M (geti M (j : Nat)) < q := hm.hi (geti M (j : Nat)) m5 (by omega)
        have e9 : geti M ((geti M (((j : Nat) : Int).toNat : Nat)).toNat : Nat) = geti M (geti M (j : Nat)) := by rw [Int.toNat_natCast, Int.toNat_of_nonneg m5]
        rw [← e9] at n1 n2
        rw [if_neg hc, ← e9] at es
        repeat' (first | (apply AOps.nil; try simp only [List.nil_append, List.cons_append, List.set_cons_zero, List.set_cons_succ, List.length_cons, List.length_nil, Nat.reduceAdd, AV.sh, AV.sh1, AV.sh0, AO.sh, List.map_cons, List.map_nil, Nat.zero_add, Nat.add_zero, setAll]) | (apply w_move; exact rfl; exact rfl) | (apply w_assign; exact rfl; exact rfl) | apply AWp.seq | apply AWp.region | ((apply AWp.condP; exact rfl) <;> intro h) | apply AWp.block | apply AWp.ret | apply AWp.exit | apply AWp.skip | omega | ((first | apply w_lss | apply w_eql | apply w_add | apply w_idx | apply w_ld); iterate 3 exact rfl) | (apply w_idxo; exact rfl; exact rfl; (exact .sli rfl); exact rfl) | (apply w_ldo; iterate 4 exact rfl) | (apply w_sti; exact rfl; exact rfl; rotate_left 1; exact rfl; rotate_left 2) | (apply inI_of <;> omega))
        exact ⟨j + 1, by omega, by omega, by rw [es]; exact ⟨lee rfl (by (repeat (first | exact le_nil | refine le_eq rfl rfl ?_))), by (repeat (first | exact lo_nil | refine lo_eq rfl ?_)), rfl, rfl⟩⟩
    · have ej : j = i := by omega
      subst ej
      rw [← hlab] at m1 ⊢
      generalize labF j E = M at *
      repeat' (first | (apply AOps.nil; try simp only [List.nil_append, List.cons_append, List.set_cons_zero, List.set_cons_succ, List.length_cons, List.length_nil, Nat.reduceAdd, AV.sh, AV.sh1, AV.sh0, AO.sh, List.map_cons, List.map_nil, Nat.zero_add, Nat.add_zero, setAll]) | (apply w_move; exact rfl; exact rfl) | (apply w_assign; exact rfl; exact rfl) | apply AWp.seq | apply AWp.region | ((apply AWp.condP; exact rfl) <;> intro h) | apply AWp.block | apply AWp.ret | apply AWp.exit | apply AWp.skip | omega | ((apply w_lss); iterate 3 exact rfl))
      exact ⟨_, _, _, .v1 Try.results37 rfl, .sli rfl, rfl, rfl⟩
end Go.Proofs.Ytcolpjpppdmanaa
