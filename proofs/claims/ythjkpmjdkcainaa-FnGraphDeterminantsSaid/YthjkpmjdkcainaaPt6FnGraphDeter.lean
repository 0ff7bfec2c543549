/-
  Parts of the proof, one behind the other: contracts of functions and plain laws. No condition.
-/
import Derived.Test.YthjkpmjdkcainaaPt5FnGraphDeter
/-
  Determinants, walked: the program. No condition on the graph.
-/
namespace Go.Proofs.Ythjkpmjdkcainaa
open Go Go.RowKit
attribute [local irreducible] AWp AOps ResIs Ret1 QOp LOp COp AFnV AFn Imms LeE LeO
set_option maxHeartbeats 1000000
set_option linter.unusedSimpArgs false
set_option linter.unusedVariables false

/-- A product over roots. -/
def dtF (F : List Int) : List Int → Int × Bool → Int × Bool
  | [], s => s
  | v :: vs, s => dtF F vs (if s.2 = true then (tmV s.1 (geti F v), tok s.1 (geti F v)) else s)
theorem dtF_app (F : List Int) : ∀ (a b : List Int) (s : Int × Bool), dtF F (a ++ b) s = dtF F b (dtF F a s)
  | [], b, s => rfl
  | x :: a, b, s => dtF_app F a b _
theorem dtF_in (F : List Int) : ∀ (vs : List Int) (s : Int × Bool), inM s.1 → inM (dtF F vs s).1
  | [], s, h => h
  | v :: vs, s, h => by
    rw [dtF]
    apply dtF_in
    split
    · exact tmV_in _ _
    · exact h
theorem inM1 : inM 1 := by unfold inM; omega
theorem slicesMin_c (xs : List Int) (h : 0 < xs.length) (hl : xs.length ≤ 1000000) : AFnV Try.prog 27 [.ints xs] (.int .i64 (minL xs (geti xs 0))) := by
  (refine AFnV.start Try.func27 Try.ntmps27 rfl (by kernel_rfl) fun hk => ?_; simp only [Env.start, enumF, List.length_cons, List.length_nil, Nat.reduceAdd, Nat.reduceSub, List.cons_append, List.nil_append])
  repeat' (first | (apply AOps.nil; try simp only [List.nil_append, List.cons_append, List.set_cons_zero, List.set_cons_succ, List.length_cons, List.length_nil, Nat.reduceAdd, AV.sh, AV.sh1, AV.sh0, AO.sh, List.map_cons, List.map_nil, Nat.zero_add, Nat.add_zero, setAll]) | (apply w_move; exact rfl; exact rfl) | (apply w_assign; exact rfl; exact rfl) | apply AWp.seq | apply AWp.region | ((apply AWp.condP; exact rfl) <;> intro h) | apply AWp.block | apply AWp.skip | (apply w_len; exact rfl; exact rfl; first | exact .ints _ | exact .intss _ | exact .sli rfl | exact .sls rfl | exact .slr rfl | exact .orow rfl | exact .nil) | omega | ((first | apply w_lss | apply w_idx | apply w_ld); iterate 3 exact rfl))
  refine AWp.loop (ι := Nat) (fun i => ⟨25, [(0, .ints xs), (3, .i (minL (xs.take i) (geti xs 0))), (4, .i i)]⟩) (fun _ => []) (fun i => 1 ≤ i ∧ i ≤ xs.length) (fun i => xs.length - i) 1 (by omega) ⟨lee rfl (by
    refine le_eq rfl rfl ?_
    refine le_eq rfl (congrArg AV.i ?_) ?_
    · obtain ⟨x, xs, rfl⟩ : ∃ x xs', xs = x :: xs' := by cases xs with
        | nil => simp at h
        | cons x xs => exact ⟨x, xs, rfl⟩
      simp [minL, geti]
    refine le_eq rfl rfl ?_
    exact le_nil), by (repeat (exact lo_nil)), rfl, rfl⟩ ?_
  rintro i ⟨i1, i2⟩
  by_cases hi : i < xs.length
  · have e1 : minL (xs.take (i + 1)) (geti xs 0) = min (minL (xs.take i) (geti xs 0)) (geti xs (i : Nat)) := by rw [take_geti hi, minL_app]; rfl
    repeat' (first | (apply AOps.nil; try simp only [List.nil_append, List.cons_append, List.set_cons_zero, List.set_cons_succ, List.length_cons, List.length_nil, Nat.reduceAdd, AV.sh, AV.sh1, AV.sh0, AO.sh, List.map_cons, List.map_nil, Nat.zero_add, Nat.add_zero, setAll]) | (apply w_move; exact rfl; exact rfl) | (apply w_assign; exact rfl; exact rfl) | apply AWp.seq | apply AWp.region | ((apply AWp.condP; exact rfl) <;> intro h) | apply AWp.block | apply AWp.ret | apply AWp.exit | apply AWp.skip | (apply w_len; exact rfl; exact rfl; first | exact .ints _ | exact .intss _ | exact .sli rfl | exact .sls rfl | exact .slr rfl | exact .orow rfl | exact .nil) | omega | ((first | apply w_lss | apply w_add | apply w_idx | apply w_ld | apply w_min); iterate 3 exact rfl) | (apply inI_of <;> omega))
    exact ⟨i + 1, by omega, by omega, ⟨lee rfl (by (repeat (first | exact le_nil | refine le_eq rfl rfl ?_ | refine le_eq rfl (congrArg AV.i (by omega)) ?_))), by (repeat (exact lo_nil)), rfl, rfl⟩⟩
  · have e : i = xs.length := by omega
    subst e
    repeat' (first | (apply AOps.nil; try simp only [List.nil_append, List.cons_append, List.set_cons_zero, List.set_cons_succ, List.length_cons, List.length_nil, Nat.reduceAdd, AV.sh, AV.sh1, AV.sh0, AO.sh, List.map_cons, List.map_nil, Nat.zero_add, Nat.add_zero, setAll]) | (apply w_move; exact rfl; exact rfl) | (apply w_assign; exact rfl; exact rfl) | apply AWp.seq | apply AWp.region | ((apply AWp.condP; exact rfl) <;> intro h) | apply AWp.block | apply AWp.ret | apply AWp.exit | apply AWp.skip | (apply w_len; exact rfl; exact rfl; first | exact .ints _ | exact .intss _ | exact .sli rfl | exact .sls rfl | exact .slr rfl | exact .orow rfl | exact .nil) | omega | ((apply w_lss); iterate 3 exact rfl))
    exact .int Try.results27 rfl (by rw [List.take_length])
theorem minL_pos : ∀ {xs : List Int} {m : Int}, (0 < minL xs m ↔ 0 < m ∧ ∀ x ∈ xs, 0 < x)
  | [], m => by simp [minL]
  | x :: xs, m => by
    rw [minL, minL_pos (xs := xs)]
    simp only [List.mem_cons, forall_eq_or_imp]
    constructor
    · rintro ⟨h1, h2⟩; exact ⟨by omega, by omega, h2⟩
    · rintro ⟨h1, h2, h3⟩; exact ⟨by omega, h3⟩
section
variable {W : List Int} {E : List (List Int)}
theorem gr_lens (h : GrF W E) : (brF W.length (nearL E) W W.length).1.f.length = W.length ∧ (brF W.length (nearL E) W W.length).1.g.length = W.length ∧ (∀ x ∈ (brF W.length (nearL E) W W.length).1.f, inM x) := by
  have := (br_run h.fo.fst h.w W.length (Nat.le_refl _)).ok
  exact ⟨this.lf, this.lg, this.bf⟩

set_option maxHeartbeats 16000000 in
theorem determinant_c (W : List Int) (E : List (List Int)) (h : GrF W E) : AFnV Try.prog 25 [.agg [.ints W, .intss E]] (.tuple #[.int .i64 (dtF (brF W.length (nearL E) W W.length).1.f (rts W.length (nearL E) W.length) (1, !(brF W.length (nearL E) W W.length).1.l)).1, .bool (dtF (brF W.length (nearL E) W W.length).1.f (rts W.length (nearL E) W.length) (1, !(brF W.length (nearL E) W W.length).1.l)).2]) := by
  have hb := branchDeterminants_c W E h
  have hn := h.n
  have hrs := (br_end (W := W) h.fo.fst h.w).1
  have hrn := rts_rng W.length (nearL E) W.length
  have hrl := rts_len W.length (nearL E) W.length
  obtain ⟨l1, l2, l3⟩ := gr_lens h
  rw [hrs] at hb
  generalize (brF W.length (nearL E) W W.length).1.f = F at *
  generalize (brF W.length (nearL E) W W.length).1.g = G at *
  generalize (brF W.length (nearL E) W W.length).1.l = l at *
  generalize rts W.length (nearL E) W.length = R at *
  (refine AFnV.start Try.func25 Try.ntmps25 rfl (by kernel_rfl) fun hk => ?_; simp only [Env.start, enumF, List.length_cons, List.length_nil, Nat.reduceAdd, Nat.reduceSub, List.cons_append, List.nil_append])
  repeat' (first | (apply AOps.nil; try simp only [List.nil_append, List.cons_append, List.set_cons_zero, List.set_cons_succ, List.length_cons, List.length_nil, Nat.reduceAdd, AV.sh, AV.sh1, AV.sh0, AO.sh, List.map_cons, List.map_nil, Nat.zero_add, Nat.add_zero, setAll]) | (apply w_move; exact rfl; exact rfl) | (apply w_assign; exact rfl; exact rfl) | apply AWp.seq | apply AWp.region | apply AWp.block | (apply w_len; exact rfl; exact rfl; first | exact .ints _ | exact .intss _ | exact .sli rfl | exact .sls rfl | exact .slr rfl | exact .orow rfl | exact .nil) | (apply w_callc [] (hb); exact rfl; (exact handed0); (focus ((repeat (first | exact imu_nil | refine imu_cons rfl (imu_agg2 (.ints _) (.intss _)) ?_)); done)); rintro r os0 ⟨rfl, rfl⟩; try simp only [List.nil_append, List.cons_append, List.set_cons_zero, List.set_cons_succ, List.length_cons, List.length_nil, Nat.reduceAdd, AV.sh, AV.sh1, AV.sh0, AO.sh, List.map_cons, List.map_nil, Nat.zero_add, Nat.add_zero, setAll]) | ((apply w_ext); iterate 3 exact rfl) | ((apply w_boxa); iterate 2 exact rfl) | (apply w_ldst; iterate 5 exact rfl))
  refine AWp.loop (ι := Nat) (fun i => ⟨37, [(4, .own 1), (7, .b (dtF F (R.take i) (1, !l)).2), (8, .i (dtF F (R.take i) (1, !l)).1), (18, .own 3), (19, .i R.length), (20, .i i)]⟩) (fun _ => [.bx 27 [.ints W, .intss E], .sli 2 F, .sli 2 G, .sli 2 R]) (fun i => i ≤ R.length) (fun i => R.length - i) 0 (by omega) ⟨lee rfl (by (repeat (first | exact le_nil | refine le_eq rfl rfl ?_))), by (repeat (first | exact lo_nil | refine lo_eq rfl ?_)), rfl, rfl⟩ ?_
  intro i i0
  have hin := dtF_in F (R.take i) (1, !l) inM1
  by_cases hi : i < R.length
  · have e1 : dtF F (R.take (i + 1)) (1, !l) = if (dtF F (R.take i) (1, !l)).2 = true then (tmV (dtF F (R.take i) (1, !l)).1 (geti F (geti R (i : Nat))), tok (dtF F (R.take i) (1, !l)).1 (geti F (geti R (i : Nat)))) else dtF F (R.take i) (1, !l) := by rw [take_geti hi, dtF_app]; rfl
    have hr0 := hrn (geti R (i : Nat)) (geti_mem (by omega) (by omega))
    generalize dtF F (R.take i) (1, !l) = s at *
    obtain ⟨d, ok⟩ := s
    have ht := times_c d (geti F (geti R (i : Nat))) hin (l3 _ (geti_mem (by omega) (by omega)))
    simp only at e1
    cases ok with
    | true =>
      rw [if_pos rfl] at e1
      repeat' (first | (apply AOps.nil; try simp only [List.nil_append, List.cons_append, List.set_cons_zero, List.set_cons_succ, List.length_cons, List.length_nil, Nat.reduceAdd, AV.sh, AV.sh1, AV.sh0, AO.sh, List.map_cons, List.map_nil, Nat.zero_add, Nat.add_zero, setAll]) | (apply w_move; exact rfl; exact rfl) | (apply w_assign; exact rfl; exact rfl) | apply AWp.seq | apply AWp.region | ((apply AWp.condP; exact rfl) <;> intro h) | (apply AWp.condT; exact rfl) | apply AWp.block | apply AWp.ret | apply AWp.exit | apply AWp.skip | (apply w_call (ht); exact rfl; exact rfl; focus ((repeat (first | exact im_nil | refine im_cons rfl (.val _) ?_)); done)) | omega | ((first | apply w_lss | apply w_add | apply w_idx | apply w_ld | apply w_extv); iterate 3 exact rfl) | (apply w_idxo; exact rfl; exact rfl; (exact .sli rfl); exact rfl) | (apply w_ldo; iterate 4 exact rfl) | (apply inI_of <;> omega) | (simp <;> omega))
      exact ⟨i + 1, by omega, by omega, by rw [e1]; exact ⟨lee rfl (by (repeat (first | exact le_nil | refine le_eq rfl rfl ?_))), by (repeat (first | exact lo_nil | refine lo_eq rfl ?_)), rfl, rfl⟩⟩
    | false =>
      rw [if_neg (by decide)] at e1
      repeat' (first | (apply AOps.nil; try simp only [List.nil_append, List.cons_append, List.set_cons_zero, List.set_cons_succ, List.length_cons, List.length_nil, Nat.reduceAdd, AV.sh, AV.sh1, AV.sh0, AO.sh, List.map_cons, List.map_nil, Nat.zero_add, Nat.add_zero, setAll]) | (apply w_move; exact rfl; exact rfl) | (apply w_assign; exact rfl; exact rfl) | apply AWp.seq | apply AWp.region | ((apply AWp.condP; exact rfl) <;> intro h) | (apply AWp.condF; exact rfl) | apply AWp.block | apply AWp.ret | apply AWp.exit | apply AWp.skip | omega | ((first | apply w_lss | apply w_add | apply w_idx | apply w_ld); iterate 3 exact rfl) | (apply w_idxo; exact rfl; exact rfl; (exact .sli rfl); exact rfl) | (apply w_ldo; iterate 4 exact rfl) | (apply inI_of <;> omega))
      exact ⟨i + 1, by omega, by omega, by rw [e1]; exact ⟨lee rfl (by (repeat (first | exact le_nil | refine le_eq rfl rfl ?_))), by (repeat (first | exact lo_nil | refine lo_eq rfl ?_)), rfl, rfl⟩⟩
  · have ei : i = R.length := by omega
    subst ei
    rw [List.take_length]
    repeat' (first | (apply AOps.nil; try simp only [List.nil_append, List.cons_append, List.set_cons_zero, List.set_cons_succ, List.length_cons, List.length_nil, Nat.reduceAdd, AV.sh, AV.sh1, AV.sh0, AO.sh, List.map_cons, List.map_nil, Nat.zero_add, Nat.add_zero, setAll]) | (apply w_move; exact rfl; exact rfl) | (apply w_assign; exact rfl; exact rfl) | apply AWp.seq | apply AWp.region | ((apply AWp.condP; exact rfl) <;> intro h) | apply AWp.block | apply AWp.ret | apply AWp.exit | apply AWp.skip | omega | ((apply w_lss); iterate 3 exact rfl))
    all_goals exact .vv2 Try.results25 rfl rfl

/-- The determinant and the code. -/
noncomputable def gdV (W : List Int) (E : List (List Int)) : Int × Bool := dtF (brF W.length (nearL E) W W.length).1.f (rts W.length (nearL E) W.length) (1, !(brF W.length (nearL E) W W.length).1.l)
noncomputable def gdC (W : List Int) (E : List (List Int)) : Int × Int := if gok W E = true then (if (gdV W E).2 = true then ((gdV W E).1, 0) else (0, 3)) else (0, 1)
theorem implGraphDeterminant_c (W : List Int) (E : List (List Int)) : AFnV Try.prog 9 [.agg [.ints W, .intss E]] (.tuple #[.int .i64 (gdC W E).1, .int .i64 (gdC W E).2]) := by
  have hg := isGraph_c W E
  cases hv : gok W E with
  | false =>
    have e : gdC W E = (0, 1) := by unfold gdC; rw [if_neg (by rw [hv]; simp)]
    rw [hv] at hg
    rw [e]
    (refine AFnV.start Try.func9 Try.ntmps9 rfl (by kernel_rfl) fun hk => ?_; simp only [Env.start, enumF, List.length_cons, List.length_nil, Nat.reduceAdd, Nat.reduceSub, List.cons_append, List.nil_append])
    repeat' (first | (apply AOps.nil; try simp only [List.nil_append, List.cons_append, List.set_cons_zero, List.set_cons_succ, List.length_cons, List.length_nil, Nat.reduceAdd, AV.sh, AV.sh1, AV.sh0, AO.sh, List.map_cons, List.map_nil, Nat.zero_add, Nat.add_zero, setAll]) | (apply w_assign; exact rfl; exact rfl) | apply AWp.seq | apply AWp.region | (apply AWp.condT; exact rfl) | apply AWp.ret | (apply w_call (hg); exact rfl; exact rfl; focus ((repeat (first | exact im_nil | refine im_cons rfl (im_agg2 (.ints _) (.intss _)) ?_)); done)) | ((first | apply w_not | apply w_boxa); iterate 2 exact rfl) | (apply w_ldst; iterate 5 exact rfl))
    all_goals exact .vv2 Try.results9 rfl rfl
  | true =>
    have h := (gok_iff.1 hv).gr
    have hd := determinant_c W E h
    have e : gdC W E = if (gdV W E).2 = true then ((gdV W E).1, 0) else (0, 3) := by unfold gdC; rw [if_pos hv]
    rw [hv] at hg
    rw [e]
    rw [show dtF (brF W.length (nearL E) W W.length).1.f (rts W.length (nearL E) W.length) (1, !(brF W.length (nearL E) W W.length).1.l) = gdV W E from rfl] at hd
    generalize gdV W E = s at *
    obtain ⟨d, ok⟩ := s
    (refine AFnV.start Try.func9 Try.ntmps9 rfl (by kernel_rfl) fun hk => ?_; simp only [Env.start, enumF, List.length_cons, List.length_nil, Nat.reduceAdd, Nat.reduceSub, List.cons_append, List.nil_append])
    cases ok with
    | true =>
      repeat' (first | (apply AOps.nil; try simp only [List.nil_append, List.cons_append, List.set_cons_zero, List.set_cons_succ, List.length_cons, List.length_nil, Nat.reduceAdd, AV.sh, AV.sh1, AV.sh0, AO.sh, List.map_cons, List.map_nil, Nat.zero_add, Nat.add_zero, setAll]) | (apply w_move; exact rfl; exact rfl) | (apply w_assign; exact rfl; exact rfl) | apply AWp.seq | apply AWp.region | (apply AWp.condF; exact rfl) | apply AWp.ret | apply AWp.skip | (apply w_call (hg); exact rfl; exact rfl; focus ((repeat (first | exact im_nil | refine im_cons rfl (im_agg2 (.ints _) (.intss _)) ?_)); done)) | (apply w_call (hd); exact rfl; exact rfl; focus ((repeat (first | exact im_nil | refine im_cons rfl (im_agg2 (.ints _) (.intss _)) ?_)); done)) | ((apply w_extv); iterate 3 exact rfl) | ((first | apply w_not | apply w_boxa); iterate 2 exact rfl) | (apply w_ldst; iterate 5 exact rfl))
      all_goals exact .vv2 Try.results9 rfl rfl
    | false =>
      repeat' (first | (apply AOps.nil; try simp only [List.nil_append, List.cons_append, List.set_cons_zero, List.set_cons_succ, List.length_cons, List.length_nil, Nat.reduceAdd, AV.sh, AV.sh1, AV.sh0, AO.sh, List.map_cons, List.map_nil, Nat.zero_add, Nat.add_zero, setAll]) | (apply w_move; exact rfl; exact rfl) | (apply w_assign; exact rfl; exact rfl) | apply AWp.seq | apply AWp.region | (apply AWp.condT; exact rfl) | (apply AWp.condF; exact rfl) | apply AWp.ret | apply AWp.skip | (apply w_call (hg); exact rfl; exact rfl; focus ((repeat (first | exact im_nil | refine im_cons rfl (im_agg2 (.ints _) (.intss _)) ?_)); done)) | (apply w_call (hd); exact rfl; exact rfl; focus ((repeat (first | exact im_nil | refine im_cons rfl (im_agg2 (.ints _) (.intss _)) ?_)); done)) | ((apply w_extv); iterate 3 exact rfl) | ((first | apply w_not | apply w_boxa); iterate 2 exact rfl) | (apply w_ldst; iterate 5 exact rfl))
      all_goals exact .vv2 Try.results9 rfl rfl

theorem implBranch_bad (W : List Int) (E : List (List Int)) (h : gok W E = false) : AFnV Try.prog 6 [.agg [.ints W, .intss E]] (.tuple #[.slice none 0 0, .slice none 0 0, .int .i64 1]) := by
  have hg := isGraph_c W E
  rw [h] at hg
  (refine AFnV.start Try.func6 Try.ntmps6 rfl (by kernel_rfl) fun hk => ?_; simp only [Env.start, enumF, List.length_cons, List.length_nil, Nat.reduceAdd, Nat.reduceSub, List.cons_append, List.nil_append])
  repeat' (first | (apply AOps.nil; try simp only [List.nil_append, List.cons_append, List.set_cons_zero, List.set_cons_succ, List.length_cons, List.length_nil, Nat.reduceAdd, AV.sh, AV.sh1, AV.sh0, AO.sh, List.map_cons, List.map_nil, Nat.zero_add, Nat.add_zero, setAll]) | (apply w_assign; exact rfl; exact rfl) | apply AWp.seq | apply AWp.region | (apply AWp.condT; exact rfl) | apply AWp.ret | (apply w_call (hg); exact rfl; exact rfl; focus ((repeat (first | exact im_nil | refine im_cons rfl (im_agg2 (.ints _) (.intss _)) ?_)); done)) | ((first | apply w_not | apply w_boxa); iterate 2 exact rfl) | (apply w_ldst; iterate 5 exact rfl))
  all_goals exact .vv3 Try.results6 rfl rfl rfl
theorem implBranch_lim (W : List Int) (E : List (List Int)) (h : gok W E = true) (hl : ¬ bdOk W.length (nearL E) W) : AFnV Try.prog 6 [.agg [.ints W, .intss E]] (.tuple #[.slice none 0 0, .slice none 0 0, .int .i64 3]) := by
  have hg := isGraph_c W E
  have hh := (gok_iff.1 h).gr
  have hb := branchDeterminants_c W E hh
  have hl' := (br_end (W := W) hh.fo.fst hh.w).2.1.2 hl
  rw [h] at hg
  rw [hl'] at hb
  generalize (brF W.length (nearL E) W W.length).1.f = F at *
  generalize (brF W.length (nearL E) W W.length).1.g = G at *
  generalize (brF W.length (nearL E) W W.length).2 = R at *
  (refine AFnV.start Try.func6 Try.ntmps6 rfl (by kernel_rfl) fun hk => ?_; simp only [Env.start, enumF, List.length_cons, List.length_nil, Nat.reduceAdd, Nat.reduceSub, List.cons_append, List.nil_append])
  repeat' (first | (apply AOps.nil; try simp only [List.nil_append, List.cons_append, List.set_cons_zero, List.set_cons_succ, List.length_cons, List.length_nil, Nat.reduceAdd, AV.sh, AV.sh1, AV.sh0, AO.sh, List.map_cons, List.map_nil, Nat.zero_add, Nat.add_zero, setAll]) | (apply w_move; exact rfl; exact rfl) | (apply w_assign; exact rfl; exact rfl) | apply AWp.seq | apply AWp.region | (apply AWp.condT; exact rfl) | (apply AWp.condF; exact rfl) | apply AWp.ret | apply AWp.skip | (apply w_call (hg); exact rfl; exact rfl; focus ((repeat (first | exact im_nil | refine im_cons rfl (im_agg2 (.ints _) (.intss _)) ?_)); done)) | (apply w_callc [] (hb); exact rfl; (exact handed0); (focus ((repeat (first | exact imu_nil | refine imu_cons rfl (imu_agg2 (.ints _) (.intss _)) ?_)); done)); rintro r os0 ⟨rfl, rfl⟩; try simp only [List.nil_append, List.cons_append, List.set_cons_zero, List.set_cons_succ, List.length_cons, List.length_nil, Nat.reduceAdd, AV.sh, AV.sh1, AV.sh0, AO.sh, List.map_cons, List.map_nil, Nat.zero_add, Nat.add_zero, setAll]) | ((apply w_ext); iterate 3 exact rfl) | ((first | apply w_not | apply w_boxa); iterate 2 exact rfl) | (apply w_ldst; iterate 5 exact rfl))
  all_goals exact .vv3 Try.results6 rfl rfl rfl
theorem implBranch_ok (W : List Int) (E : List (List Int)) (h : gok W E = true) (hl : bdOk W.length (nearL E) W) : AFnC Try.prog 6 [.agg [.ints W, .intss E]] [] (fun r os => r = .tup [.own 0, .own 1, .i 0] ∧
      os = [.sli 2 (bdF W.length (nearL E) W), .sli 2 (bdG W.length (nearL E) W)]) := by
  have hg := isGraph_c W E
  have hh := (gok_iff.1 h).gr
  have hb := branchDeterminants_c W E hh
  have hend := br_end (W := W) hh.fo.fst hh.w
  have hl' : (brF W.length (nearL E) W W.length).1.l = false := by
    cases e : (brF W.length (nearL E) W W.length).1.l with
    | false => rfl
    | true => exact absurd hl (hend.2.1.1 e)
  rw [h] at hg
  rw [hl', (hend.2.2 hl).1, (hend.2.2 hl).2] at hb
  generalize bdF W.length (nearL E) W = F at *
  generalize bdG W.length (nearL E) W = G at *
  generalize (brF W.length (nearL E) W W.length).2 = R at *
  (refine AFnC.start Try.func6 Try.ntmps6 rfl (by kernel_rfl) fun K => ?_; simp only [Env.start, enumF, List.map_cons, List.map_nil, AV.sh, List.length_cons, List.length_nil, Nat.reduceAdd, Nat.reduceSub, List.cons_append, List.nil_append])
  repeat' (first | (apply AOps.nil; try simp only [List.nil_append, List.cons_append, List.set_cons_zero, List.set_cons_succ, List.length_cons, List.length_nil, Nat.reduceAdd, AV.sh, AV.sh1, AV.sh0, AO.sh, List.map_cons, List.map_nil, Nat.zero_add, Nat.add_zero, setAll]) | (apply w_move; exact rfl; exact rfl) | (apply w_assign; exact rfl; exact rfl) | apply AWp.seq | apply AWp.region | (apply AWp.condF; exact rfl) | apply AWp.ret | apply AWp.skip | (apply w_call (hg); exact rfl; exact rfl; focus ((repeat (first | exact im_nil | refine im_cons rfl (im_agg2 (.ints _) (.intss _)) ?_)); done)) | (apply w_callc [] (hb); exact rfl; (exact handed0); (focus ((repeat (first | exact imu_nil | refine imu_cons rfl (imu_agg2 (.ints _) (.intss _)) ?_)); done)); rintro r os0 ⟨rfl, rfl⟩; try simp only [List.nil_append, List.cons_append, List.set_cons_zero, List.set_cons_succ, List.length_cons, List.length_nil, Nat.reduceAdd, AV.sh, AV.sh1, AV.sh0, AO.sh, List.map_cons, List.map_nil, Nat.zero_add, Nat.add_zero, setAll]) | ((apply w_ext); iterate 3 exact rfl) | ((first | apply w_not | apply w_boxa); iterate 2 exact rfl) | (apply w_ldst; iterate 5 exact rfl))
  refine ⟨⟨23, [(2, .own 1), (3, .own 2), (4, .i 0)]⟩, [.sli 2 F, .sli 2 G], .tup [.own 0, .own 1, .i 0], Turns.or ?_, ResIs.a3 rfl rfl rfl rfl, all_cons trivial (all_cons trivial (all_cons trivial all_nil)), ⟨rfl, rfl⟩, all_cons trivial (all_cons trivial all_nil)⟩
  (apply Or.inr; refine ⟨[0, 2, 3], ⟨by decide, fun x hx => Nat.lt_of_lt_of_le ((by decide : ∀ x ∈ ([0, 2, 3] : List Nat), x < 4) x hx) (Nat.le_of_ble_eq_true rfl)⟩, lee rfl ?_, ?_, rfl, (by first | exact rfl | (simp [AO.lim, AV.lim, bL_lim]; done))⟩; (focus ((repeat (first | exact le_nil | refine le_eq rfl rfl ?_)); done)); (focus ((repeat (first | exact lo_nil | refine lo_eq rfl ?_)); done)))

theorem implNegDef_bad (W : List Int) (E : List (List Int)) (h : gok W E = false) : AFnV Try.prog 11 [.agg [.ints W, .intss E]] (.tuple #[.bool false, .int .i64 1]) := by
  have hg := implBranch_bad W E h
  (refine AFnV.start Try.func11 Try.ntmps11 rfl (by kernel_rfl) fun hk => ?_; simp only [Env.start, enumF, List.length_cons, List.length_nil, Nat.reduceAdd, Nat.reduceSub, List.cons_append, List.nil_append])
  repeat' (first | (apply AOps.nil; try simp only [List.nil_append, List.cons_append, List.set_cons_zero, List.set_cons_succ, List.length_cons, List.length_nil, Nat.reduceAdd, AV.sh, AV.sh1, AV.sh0, AO.sh, List.map_cons, List.map_nil, Nat.zero_add, Nat.add_zero, setAll]) | (apply w_move; exact rfl; exact rfl) | (apply w_assign; exact rfl; exact rfl) | apply AWp.seq | apply AWp.region | ((apply AWp.condP; exact rfl) <;> intro h) | apply AWp.ret | apply AWp.skip | (apply w_call (hg); exact rfl; exact rfl; focus ((repeat (first | exact im_nil | refine im_cons rfl (im_agg2 (.ints _) (.intss _)) ?_)); done)) | omega | ((first | apply w_neq | apply w_extv); iterate 3 exact rfl) | ((apply w_boxa); iterate 2 exact rfl) | (apply w_ldst; iterate 5 exact rfl))
  all_goals exact .vv2 Try.results11 rfl rfl
theorem implNegDef_lim (W : List Int) (E : List (List Int)) (h : gok W E = true) (hl : ¬ bdOk W.length (nearL E) W) : AFnV Try.prog 11 [.agg [.ints W, .intss E]] (.tuple #[.bool false, .int .i64 3]) := by
  have hg := implBranch_lim W E h hl
  (refine AFnV.start Try.func11 Try.ntmps11 rfl (by kernel_rfl) fun hk => ?_; simp only [Env.start, enumF, List.length_cons, List.length_nil, Nat.reduceAdd, Nat.reduceSub, List.cons_append, List.nil_append])
  repeat' (first | (apply AOps.nil; try simp only [List.nil_append, List.cons_append, List.set_cons_zero, List.set_cons_succ, List.length_cons, List.length_nil, Nat.reduceAdd, AV.sh, AV.sh1, AV.sh0, AO.sh, List.map_cons, List.map_nil, Nat.zero_add, Nat.add_zero, setAll]) | (apply w_move; exact rfl; exact rfl) | (apply w_assign; exact rfl; exact rfl) | apply AWp.seq | apply AWp.region | ((apply AWp.condP; exact rfl) <;> intro h) | apply AWp.ret | apply AWp.skip | (apply w_call (hg); exact rfl; exact rfl; focus ((repeat (first | exact im_nil | refine im_cons rfl (im_agg2 (.ints _) (.intss _)) ?_)); done)) | omega | ((first | apply w_neq | apply w_extv); iterate 3 exact rfl) | ((apply w_boxa); iterate 2 exact rfl) | (apply w_ldst; iterate 5 exact rfl))
  all_goals exact .vv2 Try.results11 rfl rfl
def posB (F : List Int) : Bool := F.all fun x => decide (0 < x)
theorem implNegDef_ok (W : List Int) (E : List (List Int)) (h : gok W E = true) (hl : bdOk W.length (nearL E) W) : AFnV Try.prog 11 [.agg [.ints W, .intss E]] (.tuple #[.bool (posB (bdF W.length (nearL E) W)), .int .i64 0]) := by
  have hg := implBranch_ok W E h hl
  have hn := (gok_iff.1 h).n
  have hlen : (bdF W.length (nearL E) W).length = W.length := by simp [bdF]
  generalize bdF W.length (nearL E) W = F at *
  generalize bdG W.length (nearL E) W = G at *
  have hm := slicesMin_c F (by omega) (by omega)
  have hp : posB F = decide (0 < minL F (geti F 0)) := by
    unfold posB
    rw [Bool.eq_iff_iff, List.all_eq_true, decide_eq_true_iff, minL_pos]
    simp only [decide_eq_true_eq]
    exact ⟨fun h => ⟨h _ (geti_mem (by omega) (by omega)), h⟩, fun h => h.2⟩
  rw [hp]
  (refine AFnV.start Try.func11 Try.ntmps11 rfl (by kernel_rfl) fun hk => ?_; simp only [Env.start, enumF, List.length_cons, List.length_nil, Nat.reduceAdd, Nat.reduceSub, List.cons_append, List.nil_append])
  repeat' (first | (apply AOps.nil; try simp only [List.nil_append, List.cons_append, List.set_cons_zero, List.set_cons_succ, List.length_cons, List.length_nil, Nat.reduceAdd, AV.sh, AV.sh1, AV.sh0, AO.sh, List.map_cons, List.map_nil, Nat.zero_add, Nat.add_zero, setAll]) | (apply w_move; exact rfl; exact rfl) | (apply w_assign; exact rfl; exact rfl) | apply AWp.seq | apply AWp.region | ((apply AWp.condP; exact rfl) <;> intro h) | apply AWp.ret | apply AWp.skip | (apply w_callc [] (hg); exact rfl; (exact handed0); (focus ((repeat (first | exact imu_nil | refine imu_cons rfl (imu_agg2 (.ints _) (.intss _)) ?_)); done)); rintro r os0 ⟨rfl, rfl⟩; try simp only [List.nil_append, List.cons_append, List.set_cons_zero, List.set_cons_succ, List.length_cons, List.length_nil, Nat.reduceAdd, AV.sh, AV.sh1, AV.sh0, AO.sh, List.map_cons, List.map_nil, Nat.zero_add, Nat.add_zero, setAll]) | (apply w_call (hm); exact rfl; exact rfl; focus ((repeat (first | exact im_nil | refine im_cons rfl (.sli rfl) ?_)); done)) | omega | ((first | apply w_gtr | apply w_neq | apply w_extv); iterate 3 exact rfl) | ((apply w_ext); iterate 3 exact rfl) | ((apply w_boxa); iterate 2 exact rfl) | (apply w_ldst; iterate 5 exact rfl))
  all_goals exact .vv2 Try.results11 rfl rfl
end
end Go.Proofs.Ythjkpmjdkcainaa
/-
  The quadratic form of a forest, all trees together. No condition.
-/
namespace Go.Proofs.Ythjkpmjdkcainaa
open Go Go.RowKit
section
variable {n : Nat} {near : Int → List Int} {r : Int} {o p W : List Int} {x : Int → Int}
theorem br_mem (h : Tr n near r o p) : ∀ v ∈ o, ∀ y, y ∈ BR n near p v ↔ Dsc r o p v y := by
  refine h.up fun v hv ih => ?_
  intro y
  rw [BR_eq h hv, List.mem_cons, List.mem_flatMap]
  constructor
  · rintro (rfl | ⟨c, hc, hy⟩)
    · exact .refl hv
    · exact Dsc.child h hv hc ((ih c hc y).1 hy)
  · intro hy
    rcases Dsc.cases h hy with rfl | ⟨c, hc, hd⟩
    · exact .inl rfl
    · exact .inr ⟨c, hc, (ih c hc y).2 hd⟩
theorem nd_flat {G : Int → List Int} : ∀ {L : List Int}, L.Nodup → (∀ c ∈ L, (G c).Nodup) → (∀ c ∈ L, ∀ d ∈ L, c ≠ d → ∀ y, y ∈ G c → y ∉ G d) → (L.flatMap G).Nodup
  | [], _, _, _ => by simp
  | a :: L, hn, h1, h2 => by
    obtain ⟨n1, n2⟩ := List.nodup_cons.1 hn
    rw [List.flatMap_cons, List.nodup_append]
    refine ⟨h1 a (by simp), nd_flat n2 (fun c hc => h1 c (by simp [hc])) fun c hc d hd => h2 c (by simp [hc]) d (by simp [hd]), ?_⟩
    intro y hy z hz e
    subst e
    obtain ⟨d, hd, hyd⟩ := List.mem_flatMap.1 hz
    exact h2 a (by simp) d (by simp [hd]) (fun e => n1 (e ▸ hd)) y hy hyd
theorem br_nd (hF : Fst n near) (h : Tr n near r o p) : ∀ v ∈ o, (BR n near p v).Nodup := by
  refine h.up fun v hv ih => ?_
  rw [BR_eq h hv, List.nodup_cons]
  refine ⟨?_, nd_flat ((hF.nd v).filter _) ih ?_⟩
  · rw [List.mem_flatMap]
    rintro ⟨c, hc, hy⟩
    exact Dsc.notup h hv hc ((br_mem h c (chl_mem h hv hc).2.2.1 v).1 hy)
  · intro c hc d hd hne y hy hy2
    exact hne (Dsc.disj h hv hc hd ((br_mem h c (chl_mem h hv hc).2.2.1 y).1 hy) ((br_mem h d (chl_mem h hv hd).2.2.1 y).1 hy2))
theorem br_root (h : Tr n near r o p) (y : Int) : y ∈ BR n near p r ↔ y ∈ o := by
  rw [br_mem h r h.rt]
  exact ⟨fun hy => hy.mem, fun hy => Dsc.all h hy⟩
/-- All vertices, tree by tree. -/
theorem rts_perm (hF : Fst n near) : ((rts n near n).flatMap fun r => BR n near (trC n near r).2 r).Perm ((List.range n).map fun (i : Nat) => (i : Int)) := by
  have hT : ∀ r ∈ rts n near n, Tr n near r (trC n near r).1 (trC n near r).2 := fun r hr => trC_ok hF (rts_rng n near n r hr)
  refine (List.perm_ext_iff_of_nodup ?_ ?_).2 fun y => ?_
  · refine nd_flat ?_ (fun r hr => br_nd hF (hT r hr) r (hT r hr).rt) ?_
    · have := rts_dis hF n (Nat.le_refl _)
      rw [List.nodup_iff_pairwise_ne]
      refine this.imp_of_mem ?_
      intro a b ha hb hd e
      subst e
      exact hd a (hT a ha).rt (hT a ha).rt
    · intro c hc d hd hne y hy hy2
      have h1 := (br_root (hT c hc) y).1 hy
      have h2 := (br_root (hT d hd) y).1 hy2
      exact hne (rts_uniq hF hc hd h1 h2)
  · rw [List.nodup_iff_pairwise_ne, List.pairwise_map]
    exact List.Pairwise.imp (fun h => by omega) (List.nodup_iff_pairwise_ne.1 List.nodup_range)
  · rw [List.mem_flatMap, List.mem_map]
    constructor
    · rintro ⟨r, hr, hy⟩
      have h1 := (br_root (hT r hr) y).1 hy
      have h2 := (hT r hr).rng y h1
      exact ⟨y.toNat, List.mem_range.2 (by omega), by omega⟩
    · rintro ⟨i, hi, rfl⟩
      have hi := List.mem_range.1 hi
      obtain ⟨r, hr, hy⟩ := rts_cov hF n (Nat.le_refl _) (i : Int) (by omega) (by omega)
      exact ⟨r, hr, (br_root (hT r hr) _).2 hy⟩
/-- The quadratic form. -/
def qF (n : Nat) (near : Int → List Int) (W : List Int) (x : Int → Int) : Int := sI (gQ W near x) ((List.range n).map fun (i : Nat) => (i : Int))
theorem qF_eq (hF : Fst n near) : qF n near W x = - sI (fun r => BQ n near W (trC n near r).2 x r) (rts n near n) := by
  have hT : ∀ r ∈ rts n near n, Tr n near r (trC n near r).1 (trC n near r).2 := fun r hr => trC_ok hF (rts_rng n near n r hr)
  unfold qF
  rw [← sI_perm _ (rts_perm hF), sI_flat, ← sI_neg]
  refine sI_congr fun r hr => ?_
  rw [br_sum hF (hT r hr) r (hT r hr).rt, if_pos rfl, Int.add_zero]
theorem qF_neg (hF : Fst n near) (hp : ∀ r ∈ rts n near n, AllPos n near W (trC n near r).1 (trC n near r).2) (hx : ∃ y : Int, (0 ≤ y ∧ y < n) ∧ x y ≠ 0) : qF n near W x < 0 := by
  have hT : ∀ r ∈ rts n near n, Tr n near r (trC n near r).1 (trC n near r).2 := fun r hr => trC_ok hF (rts_rng n near n r hr)
  rw [qF_eq hF]
  have hn : ∀ r ∈ rts n near n, 0 ≤ BQ n near W (trC n near r).2 x r := fun r hr => bq_nn (hT r hr) (hp r hr) (hT r hr).rt
  have h0 := sI_nonneg hn
  refine Int.not_le.1 fun hle => ?_
  have hz := sI_zero hn (by omega)
  obtain ⟨y, hy, hne⟩ := hx
  obtain ⟨r, hr, hm⟩ := rts_cov hF n (Nat.le_refl _) y hy.1 hy.2
  exact hne (bq_zero (hT r hr) (hp r hr) r (hT r hr).rt (hz r hr) y (Dsc.all (hT r hr) hm))
/-- A negative definite graph. -/
theorem neg_def (hF : Fst n near) (hb : bdOk n near W) (hp : posB (bdF n near W) = true) (hx : ∃ y : Int, (0 ≤ y ∧ y < n) ∧ x y ≠ 0) : qF n near W x < 0 := by
  refine qF_neg hF (fun r hr v hv => ?_) hx
  have hv2 := (trC_ok hF (rts_rng n near n r hr)).rng v hv
  have h1 := hb r hr v hv
  rw [← bdV_eq hF hr hv] at h1 ⊢
  cases e : bdV n near W v with
  | none => exact absurd e h1
  | some gf =>
    obtain ⟨g, f⟩ := gf
    refine ⟨g, f, rfl, ?_⟩
    have h2 := List.all_eq_true.1 hp f (List.mem_map.2 ⟨v.toNat, List.mem_range.2 (by omega), by rw [show ((v.toNat : Nat) : Int) = v by omega, e]; rfl⟩)
    exact of_decide_eq_true h2
end
end Go.Proofs.Ythjkpmjdkcainaa
/-
  The intersection matrix and its form: the plain law. No condition.
-/
namespace Go.Proofs.Ythjkpmjdkcainaa
open Go Go.RowKit

/-- A matrix by its entries. -/
def mx (n : Nat) (f : Nat → Nat → Int) : List (List Int) := (List.range n).map fun a => (List.range n).map fun b => f a b
def upd (f : Nat → Nat → Int) (a b : Nat) (v : Int) : Nat → Nat → Int := fun i j => if i = a ∧ j = b then v else f i j
theorem mx_len (n : Nat) (f : Nat → Nat → Int) : (mx n f).length = n := by simp [mx]
theorem mx_row {n : Nat} {f : Nat → Nat → Int} {a : Nat} (h : a < n) : (mx n f).getD a [] = (List.range n).map fun b => f a b := by
  simp [mx, List.getD_eq_getElem?_getD, h]
theorem mx_rows {n : Nat} {f : Nat → Nat → Int} : ∀ r ∈ mx n f, r.length = n := fun r hr => by
  obtain ⟨a, _, rfl⟩ := List.mem_map.1 hr
  simp
theorem mx_get {n : Nat} {f : Nat → Nat → Int} {a b : Nat} (ha : a < n) (hb : b < n) : geti (gets (mx n f) (a : Nat)) (b : Nat) = f a b := by
  show geti ((mx n f).getD ((a : Int).toNat) []) (b : Nat) = _
  rw [Int.toNat_natCast, mx_row ha]
  simp [geti, hb]
theorem mx_set {n : Nat} {f : Nat → Nat → Int} {a b : Nat} {v : Int} (ha : a < n) : (mx n f).set a (((mx n f).getD a []).set b v) = mx n (upd f a b v) := by
  rw [mx_row ha]
  apply List.ext_getElem (by simp [mx])
  intro i h1 h2
  have hi : i < n := by simpa [mx] using h2
  rw [List.getElem_set]
  by_cases e : a = i
  · subst e
    rw [if_pos rfl]
    simp only [mx, List.getElem_map, List.getElem_range]
    apply List.ext_getElem (by simp)
    intro j k1 k2
    rw [List.getElem_set]
    simp only [List.getElem_map, List.getElem_range, upd]
    by_cases e2 : b = j
    · subst e2; simp
    · rw [if_neg e2, if_neg fun h => e2 h.2.symm]
  · rw [if_neg e]
    simp only [mx, List.getElem_map, List.getElem_range]
    refine List.map_congr_left fun j _ => ?_
    unfold upd
    rw [if_neg fun h => e h.1.symm]
theorem mx_congr {n : Nat} {f g : Nat → Nat → Int} (h : ∀ a b, a < n → b < n → f a b = g a b) : mx n f = mx n g := by
  unfold mx
  refine List.map_congr_left fun a ha => List.map_congr_left fun b hb => h a b (List.mem_range.1 ha) (List.mem_range.1 hb)
def im1 (W : List Int) (k : Nat) : Nat → Nat → Int := fun a b => if a = b ∧ a < k then geti W (a : Nat) else 0
def im2 (W : List Int) (E : List (List Int)) (k : Nat) : Nat → Nat → Int := fun a b => if a = b then geti W (a : Nat) else if [(a : Int), (b : Int)] ∈ E.take k ∨ [(b : Int), (a : Int)] ∈ E.take k then 1 else 0
def imE (W : List Int) (E : List (List Int)) : Nat → Nat → Int := fun a b => if a = b then geti W (a : Nat) else if (b : Int) ∈ nearL E (a : Nat) then 1 else 0
theorem im1_0 (W : List Int) (n : Nat) : mx n (im1 W 0) = List.replicate n (List.replicate n 0) := by
  apply List.ext_getElem (by simp [mx])
  intro i h1 h2
  simp only [mx, List.getElem_map, List.getElem_replicate]
  apply List.ext_getElem (by simp)
  intro j h3 h4
  simp [im1]
theorem im1_step (W : List Int) (n k : Nat) : mx n (upd (im1 W k) k k (geti W (k : Nat))) = mx n (im1 W (k + 1)) := mx_congr fun a b _ _ => by
  unfold upd im1
  by_cases e : a = k ∧ b = k
  · obtain ⟨rfl, rfl⟩ := e
    simp
  · rw [if_neg e]
    by_cases h : a = b ∧ a < k
    · rw [if_pos h, if_pos ⟨h.1, by omega⟩]
    · rw [if_neg h, if_neg fun h2 => h ⟨h2.1, by omega⟩]
theorem im1_n (W : List Int) (E : List (List Int)) (n : Nat) : mx n (im1 W n) = mx n (im2 W E 0) := mx_congr fun a b ha _ => by
  unfold im1 im2
  by_cases e : a = b
  · rw [if_pos ⟨e, ha⟩, if_pos e]
  · rw [if_neg fun h => e h.1, if_neg e, if_neg (by simp)]
theorem im2_step {W : List Int} {E : List (List Int)} {n k : Nat} (hk : k < E.length) (he : EIn n (E.getD k [])) :
    mx n (upd (upd (im2 W E k) (geti (E.getD k []) 0).toNat (geti (E.getD k []) 1).toNat 1) (geti (E.getD k []) 1).toNat (geti (E.getD k []) 0).toNat 1) = mx n (im2 W E (k + 1)) := mx_congr fun a b ha hb => by
  obtain ⟨h0, h1, h2, h3⟩ := he
  have hE := e2 h0
  have ht : E.take (k + 1) = E.take k ++ [E.getD k []] := by
    rw [List.take_succ_eq_append_getElem hk, List.getD_eq_getElem?_getD, List.getElem?_eq_getElem hk]; rfl
  generalize E.getD k [] = e at *
  obtain ⟨u, hu⟩ : ∃ u : Nat, geti e 0 = u := ⟨(geti e 0).toNat, by omega⟩
  obtain ⟨v, hv⟩ : ∃ v : Nat, geti e 1 = v := ⟨(geti e 1).toNat, by omega⟩
  simp only [hu, hv] at hE h1 h2 h3 ⊢
  rw [Int.toNat_natCast, Int.toNat_natCast]
  have hne : u ≠ v := by omega
  unfold upd im2
  rw [ht, hE]
  simp only [List.mem_append, List.mem_singleton, List.cons.injEq, and_true, Int.natCast_inj]
  by_cases c1 : a = v ∧ b = u
  · obtain ⟨rfl, rfl⟩ := c1
    rw [if_pos ⟨rfl, rfl⟩, if_neg (fun h => hne h.symm), if_pos (.inr (.inr ⟨rfl, rfl⟩))]
  · rw [if_neg c1]
    by_cases c2 : a = u ∧ b = v
    · obtain ⟨rfl, rfl⟩ := c2
      rw [if_pos ⟨rfl, rfl⟩, if_neg hne, if_pos (.inl (.inr ⟨rfl, rfl⟩))]
    · rw [if_neg c2]
      by_cases c3 : a = b
      · rw [if_pos c3, if_pos c3]
      · rw [if_neg c3, if_neg c3]
        by_cases c4 : [(a : Int), (b : Int)] ∈ E.take k ∨ [(b : Int), (a : Int)] ∈ E.take k
        · rw [if_pos c4, if_pos (by rcases c4 with h | h; exact .inl (.inl h); exact .inr (.inl h))]
        · rw [if_neg c4, if_neg]
          rintro ((h | h) | (h | h))
          · exact c4 (.inl h)
          · exact c2 h
          · exact c4 (.inr h)
          · exact c1 ⟨h.2, h.1⟩
theorem im2_n {W : List Int} {E : List (List Int)} {n : Nat} (hE : ∀ e ∈ E, e.length = 2) : mx n (im2 W E E.length) = mx n (imE W E) := mx_congr fun a b ha hb => by
  unfold im2 imE
  rw [List.take_length]
  by_cases c : a = b
  · rw [if_pos c, if_pos c]
  · rw [if_neg c, if_neg c]
    by_cases h : (b : Int) ∈ nearL E (a : Nat)
    · rw [if_pos h, if_pos]
      rcases (near_mem hE).1 h with h | h
      · exact .inr h
      · exact .inl h
    · rw [if_neg h, if_neg]
      rintro (h2 | h2)
      · exact h ((near_mem hE).2 (.inr h2))
      · exact h ((near_mem hE).2 (.inl h2))

/-! ### The form -/
/-- The first k terms of a row. -/
def fR (f : Nat → Nat → Int) (x : List Int) (i : Nat) : Nat → Int
  | 0 => 0
  | k + 1 => fR f x i k + geti x (i : Nat) * f i k * geti x (k : Nat)
def fS (f : Nat → Nat → Int) (x : List Int) (n : Nat) : Nat → Int
  | 0 => 0
  | i + 1 => fS f x n i + fR f x i n
theorem fR_sum (f : Nat → Nat → Int) (x : List Int) (i : Nat) : ∀ k, fR f x i k = sI (fun j => geti x (i : Nat) * f i j.toNat * geti x j) ((List.range k).map fun (j : Nat) => (j : Int))
  | 0 => rfl
  | k + 1 => by
    rw [List.range_succ, List.map_append, sI_app, fR, fR_sum f x i k]
    simp [sI]
theorem fS_sum (f : Nat → Nat → Int) (x : List Int) (n : Nat) : ∀ i, fS f x n i = sI (fun j => fR f x j.toNat n) ((List.range i).map fun (j : Nat) => (j : Int))
  | 0 => rfl
  | i + 1 => by
    rw [List.range_succ, List.map_append, sI_app, fS, fS_sum f x n i]
    simp [sI]
theorem sI_filter (F : Int → Int) (p : Int → Bool) : ∀ L : List Int, sI F (L.filter p) = sI (fun a => if p a = true then F a else 0) L
  | [] => rfl
  | a :: L => by
    rw [List.filter_cons, sI]
    by_cases h : p a = true
    · rw [if_pos h, if_pos h, sI, sI_filter F p L]
    · rw [if_neg h, if_neg h, sI_filter F p L]; omega
/-- A sum over neighbours, as a sum over all. -/
theorem near_all {n : Nat} {near : Int → List Int} (hF : Fst n near) (v : Int) (x : Int → Int) : sI x (near v) = sI (fun a => if a ∈ near v then x a else 0) ((List.range n).map fun (j : Nat) => (j : Int)) := by
  have h1 : (near v).Perm (((List.range n).map fun (j : Nat) => (j : Int)).filter fun a => decide (a ∈ near v)) := by
    refine (List.perm_ext_iff_of_nodup (hF.nd v) (List.Pairwise.filter _ ?_)).2 fun a => ?_
    · rw [List.pairwise_map]
      exact List.Pairwise.imp (fun h => by omega) (List.nodup_iff_pairwise_ne.1 List.nodup_range)
    · rw [List.mem_filter, List.mem_map]
      constructor
      · intro ha
        have := (hF.bnd _ _ ha).1
        exact ⟨⟨a.toNat, List.mem_range.2 (by omega), by omega⟩, decide_eq_true ha⟩
      · rintro ⟨_, h⟩; exact of_decide_eq_true h
  rw [sI_perm x h1, sI_filter]
  exact sI_congr fun a _ => by simp
theorem one_entry {n : Nat} {F : Int → Int} {v : Nat} (hv : v < n) : sI (fun a => if a = (v : Int) then F a else 0) ((List.range n).map fun (j : Nat) => (j : Int)) = F v := by
  have hn : ((List.range n).map fun (j : Nat) => (j : Int)).Nodup := by
    rw [List.nodup_iff_pairwise_ne, List.pairwise_map]
    exact List.Pairwise.imp (fun h => by omega) (List.nodup_iff_pairwise_ne.1 List.nodup_range)
  have hm : (v : Int) ∈ ((List.range n).map fun (j : Nat) => (j : Int)) := List.mem_map.2 ⟨v, List.mem_range.2 hv, rfl⟩
  rw [sI_out hn hm, if_pos rfl]
  have : sI (fun a => if a = (v : Int) then F a else 0) (((List.range n).map fun (j : Nat) => (j : Int)).filter fun c => decide (c ≠ (v : Int))) = sI (fun _ => 0 * 0) (((List.range n).map fun (j : Nat) => (j : Int)).filter fun c => decide (c ≠ (v : Int))) := sI_congr fun a ha => by
    have := of_decide_eq_true (List.mem_filter.1 ha).2
    rw [if_neg this]; rfl
  rw [this, sI_mul]
  omega
/-- The form of the matrix is the form of the graph. -/
theorem form_eq {W : List Int} {E : List (List Int)} {n : Nat} (hF : Fst n (nearL E)) (x : List Int) : fS (imE W E) x n n = qF n (nearL E) W (geti x) := by
  rw [fS_sum]
  unfold qF
  refine sI_congr fun a ha => ?_
  obtain ⟨i, hi, rfl⟩ := List.mem_map.1 ha
  have hi := List.mem_range.1 hi
  simp only [Int.toNat_natCast]
  rw [fR_sum]
  unfold gQ
  rw [near_all hF, Int.mul_add, ← sI_mul]
  have e1 : geti x (i : Nat) * (geti W (i : Nat) * geti x (i : Nat)) = sI (fun a => if a = (i : Int) then geti x (i : Nat) * geti W (i : Nat) * geti x a else 0) ((List.range n).map fun (j : Nat) => (j : Int)) := by
    rw [one_entry hi, Int.mul_assoc]
  rw [e1, ← sI_add]
  refine sI_congr fun a ha => ?_
  obtain ⟨j, hj, rfl⟩ := List.mem_map.1 ha
  simp only [Int.toNat_natCast]
  unfold imE
  by_cases c : i = j
  · subst c
    have : ¬ (i : Int) ∈ nearL E (i : Nat) := fun h => (hF.bnd _ _ h).2.2 rfl
    rw [if_pos rfl, if_pos rfl, if_neg this, Int.mul_zero, Int.add_zero]
  · rw [if_neg c, if_neg (show ¬ (j : Int) = (i : Int) by omega)]
    split
    · rw [Int.mul_one, Int.zero_add]
    · simp
end Go.Proofs.Ythjkpmjdkcainaa
/-
  The intersection matrix, its form, labels of components, walked. Condition: a graph.
-/

namespace Go.Proofs.Ythjkpmjdkcainaa
open Go Go.RowKit
attribute [local irreducible] AWp AOps ResIs Ret1 QOp LOp COp AFnV AFn Imms LeE LeO
set_option maxHeartbeats 1000000
set_option linter.unusedSimpArgs false
set_option linter.unusedVariables false

theorem sq_step (n k : Nat) (h : k < n) : (List.replicate k (List.replicate n (0 : Int)) ++ List.replicate (n - k) []).set k (List.replicate n 0) = List.replicate (k + 1) (List.replicate n 0) ++ List.replicate (n - (k + 1)) [] := by
  apply List.ext_getElem (by simp; omega)
  intro i h1 h2
  simp only [List.getElem_set, List.getElem_append, List.length_replicate, List.getElem_replicate]
  by_cases e : k = i
  · subst e; rw [if_pos rfl, dif_pos (by omega)]
  · rw [if_neg e]
    by_cases c : i < k
    · rw [dif_pos c, dif_pos (by omega)]
    · rw [dif_neg c, dif_neg (by omega)]
set_option maxHeartbeats 4000000 in
theorem square_c (n : Nat) (hn : n ≤ 40) : AFn Try.prog 44 [.i n] (IsIntss 24 2 (List.replicate n (List.replicate n 0))) := by
  (refine AFn.start Try.func44 Try.ntmps44 rfl (by kernel_rfl) fun hk => ?_; simp only [Env.start, enumF, List.length_cons, List.length_nil, Nat.reduceAdd, Nat.reduceSub, List.cons_append, List.nil_append])
  repeat' (first | (apply AOps.nil; try simp only [List.nil_append, List.cons_append, List.set_cons_zero, List.set_cons_succ, List.length_cons, List.length_nil, Nat.reduceAdd, AV.sh, AV.sh1, AV.sh0, AO.sh, List.map_cons, List.map_nil, Nat.zero_add, Nat.add_zero, setAll]) | (apply w_move; exact rfl; exact rfl) | (apply w_assign; exact rfl; exact rfl) | apply AWp.seq | apply AWp.region | apply AWp.block | (apply w_len; exact rfl; exact rfl; first | exact .ints _ | exact .intss _ | exact .sli rfl | exact .sls rfl | exact .slr rfl | exact .orow rfl | exact .nil) | omega | (apply w_mkr; exact rfl; exact rfl; rotate_left 3; exact rfl; rotate_left 1))
  refine AWp.loop (ι := Nat) (fun k => ⟨19, [(0, .i n), (3, .own 0), (8, .i n), (9, .i k)]⟩) (fun k => [.sls 24 2 (List.replicate k (List.replicate n 0) ++ List.replicate (n - k) [])]) (fun k => k ≤ n) (fun k => n - k) 0 (Nat.zero_le _) ?_ ?_
  · simp only [List.length_replicate, Int.toNat_natCast]
    exact ⟨lee rfl (by (repeat (first | exact le_nil | refine le_eq rfl rfl ?_))), by (repeat (first | exact lo_nil | refine lo_eq rfl ?_)), rfl, rfl⟩
  intro k k0
  by_cases hk : k < n
  · have hst := sq_step n k hk
    have hlen : (List.replicate k (List.replicate n (0 : Int)) ++ List.replicate (n - k) []).length = n := by simp; omega
    generalize List.replicate k (List.replicate n (0 : Int)) ++ List.replicate (n - k) [] = R at *
    repeat' (first | (apply AOps.nil; try simp only [List.nil_append, List.cons_append, List.set_cons_zero, List.set_cons_succ, List.length_cons, List.length_nil, Nat.reduceAdd, AV.sh, AV.sh1, AV.sh0, AO.sh, List.map_cons, List.map_nil, Nat.zero_add, Nat.add_zero, setAll]) | (apply w_move; exact rfl; exact rfl) | (apply w_assign; exact rfl; exact rfl) | apply AWp.seq | apply AWp.region | ((apply AWp.condP; exact rfl) <;> intro h) | apply AWp.block | apply AWp.ret | apply AWp.exit | apply AWp.skip | omega | ((first | apply w_lss | apply w_add | apply w_idx); iterate 3 exact rfl) | (apply w_idxo; exact rfl; exact rfl; (exact .sls rfl); exact rfl) | (apply w_mki; exact rfl; exact rfl; rotate_left 3; exact rfl; rotate_left 1) | (apply w_strow; exact rfl; exact rfl; rotate_left 1; exact rfl; exact rfl; exact rfl; exact rfl; simp only [Env.mp, List.map_cons, List.map_nil, List.set_cons_zero, List.set_cons_succ, AV.kill, AV.kill1, AO.kill, AV.noRow, AV.noRow1, AO.via, reduceIte, Nat.reduceEqDiff, Nat.reduceLT, Env.up, Nat.zero_ne_one, Nat.one_ne_zero, Nat.reduceAdd, List.cons_append, List.nil_append]; rotate_left 1) | (apply inI_of <;> omega))
    simp only [Int.toNat_natCast]
    rw [hst]
    exact ⟨k + 1, by omega, by omega, ⟨lee rfl (by (repeat (first | exact le_nil | refine le_eq rfl rfl ?_))), by (repeat (first | exact lo_nil | refine lo_eq rfl ?_)), rfl, rfl⟩⟩
  · obtain rfl : k = n := by omega
    have hR : List.replicate k (List.replicate k (0 : Int)) ++ List.replicate (k - k) [] = List.replicate k (List.replicate k 0) := by simp
    rw [hR]
    repeat' (first | (apply AOps.nil; try simp only [List.nil_append, List.cons_append, List.set_cons_zero, List.set_cons_succ, List.length_cons, List.length_nil, Nat.reduceAdd, AV.sh, AV.sh1, AV.sh0, AO.sh, List.map_cons, List.map_nil, Nat.zero_add, Nat.add_zero, setAll]) | (apply w_move; exact rfl; exact rfl) | (apply w_assign; exact rfl; exact rfl) | apply AWp.seq | apply AWp.region | ((apply AWp.condP; exact rfl) <;> intro h) | apply AWp.block | apply AWp.ret | apply AWp.exit | apply AWp.skip | omega | ((apply w_lss); iterate 3 exact rfl))
    all_goals exact ⟨_, _, _, .v1 Try.results44 rfl, .sls rfl, rfl, rfl⟩
theorem mul_bb {a b A B : Int} (ha : -A ≤ a ∧ a ≤ A) (hb : -B ≤ b ∧ b ≤ B) : -(A * B) ≤ a * b ∧ a * b ≤ A * B := by
  have h1 : (a.natAbs : Int) ≤ A := by omega
  have h2 : (b.natAbs : Int) ≤ B := by omega
  have h3 : ((a * b).natAbs : Int) = (a.natAbs : Int) * b.natAbs := by rw [Int.natAbs_mul]; simp
  have h4 : (a.natAbs : Int) * b.natAbs ≤ A * B := Int.mul_le_mul h1 h2 (by omega) (by omega)
  omega
theorem fR_in {f : Nat → Nat → Int} {x : List Int} (hx : ∀ i : Int, -3 ≤ geti x i ∧ geti x i ≤ 3) (hf : ∀ a b, -1000 ≤ f a b ∧ f a b ≤ 1000) (i : Nat) : ∀ k : Nat, -(9000 * (k : Int)) ≤ fR f x i k ∧ fR f x i k ≤ 9000 * k
  | 0 => by simp [fR]
  | k + 1 => by
    have ih := fR_in hx hf i k
    have h1 := mul_bb (hx i) (hf i k)
    have h2 := mul_bb h1 (hx k)
    rw [fR]
    omega
theorem fS_in {f : Nat → Nat → Int} {x : List Int} (hx : ∀ i : Int, -3 ≤ geti x i ∧ geti x i ≤ 3) (hf : ∀ a b, -1000 ≤ f a b ∧ f a b ≤ 1000) {n : Nat} (hn : n ≤ 40) : ∀ k : Nat, -(360000 * (k : Int)) ≤ fS f x n k ∧ fS f x n k ≤ 360000 * k
  | 0 => by simp [fS]
  | k + 1 => by
    have ih := fS_in hx hf hn k
    have h1 := fR_in hx hf k n
    rw [fS]
    omega
set_option maxHeartbeats 8000000 in
theorem form9_c (n : Nat) (f : Nat → Nat → Int) (x : List Int) (hn : n ≤ 40) (hl : x.length = n) (hx : ∀ i : Int, -3 ≤ geti x i ∧ geti x i ≤ 3) (hf : ∀ a b, -1000 ≤ f a b ∧ f a b ≤ 1000) :
    AFnV Try.prog 16 [.intss (mx n f), .ints x] (.int .i64 (fS f x n n)) := by
  have hm := mx_len n f
  (refine AFnV.start Try.func16 Try.ntmps16 rfl (by kernel_rfl) fun hk => ?_; simp only [Env.start, enumF, List.length_cons, List.length_nil, Nat.reduceAdd, Nat.reduceSub, List.cons_append, List.nil_append])
  repeat' (first | (apply AOps.nil; try simp only [List.nil_append, List.cons_append, List.set_cons_zero, List.set_cons_succ, List.length_cons, List.length_nil, Nat.reduceAdd, AV.sh, AV.sh1, AV.sh0, AO.sh, List.map_cons, List.map_nil, Nat.zero_add, Nat.add_zero, setAll]) | (apply w_assign; exact rfl; exact rfl) | apply AWp.seq | apply AWp.region | apply AWp.block)
  refine AWp.loop (ι := Nat) (fun i => ⟨55, [(0, .intss (mx n f)), (1, .ints x), (5, .i (fS f x n i)), (6, .i i)]⟩) (fun _ => []) (fun i => i ≤ n) (fun i => n - i) 0 (Nat.zero_le _) ⟨lee rfl (by (repeat (first | exact le_nil | refine le_eq rfl rfl ?_))), by (repeat (exact lo_nil)), rfl, rfl⟩ ?_
  intro i i0
  have b1 := fS_in hx hf hn i
  by_cases hi : i < n
  · have hrow : (gets (mx n f) (i : Nat)).length = n := mx_rows _ (gets_mem (by omega) (by omega))
    repeat' (first | (apply AOps.nil; try simp only [List.nil_append, List.cons_append, List.set_cons_zero, List.set_cons_succ, List.length_cons, List.length_nil, Nat.reduceAdd, AV.sh, AV.sh1, AV.sh0, AO.sh, List.map_cons, List.map_nil, Nat.zero_add, Nat.add_zero, setAll]) | ((apply AOps.splitP; exact rfl; exact rfl) <;> intro h) | (apply w_move; exact rfl; exact rfl) | (apply w_assign; exact rfl; exact rfl) | apply AWp.seq | apply AWp.region | ((apply AWp.condP; exact rfl) <;> intro h) | (apply AWp.condF; exact rfl) | apply AWp.block | apply AWp.ret | apply AWp.exit | apply AWp.skip | (apply w_skip; exact rfl) | (apply w_pickT; exact rfl; exact rfl; exact rfl) | (apply w_pickF; exact rfl; exact rfl; exact rfl) | (apply w_len; exact rfl; exact rfl; first | exact .ints _ | exact .intss _ | exact .sli rfl | exact .sls rfl | exact .slr rfl | exact .orow rfl | exact .nil) | omega | ((apply w_lss); iterate 3 exact rfl))
    refine AWp.loop (ι := Nat) (fun k => ⟨55, [(0, .intss (mx n f)), (1, .ints x), (5, .i (fS f x n i + fR f x i k)), (6, .i i), (7, .i k)]⟩) (fun _ => []) (fun k => k ≤ n) (fun k => n - k) 0 (Nat.zero_le _) ⟨lee rfl (by (repeat (first | exact le_nil | refine le_eq rfl rfl ?_ | refine le_eq rfl (congrArg AV.i ((Int.add_zero _).symm)) ?_))), by (repeat (exact lo_nil)), rfl, rfl⟩ ?_
    intro k k0
    have b2 := fR_in hx hf i k
    by_cases hk : k < n
    · have hg := mx_get (f := f) hi hk
      have b3 := fR_in hx hf i (k + 1)
      have p1 := mul_bb (hx i) (hf i k)
      have p2 := mul_bb p1 (hx k)
      have e1 : fR f x i (k + 1) = fR f x i k + geti x (i : Nat) * f i k * geti x (k : Nat) := rfl
      rw [← hg] at p1 p2 e1
      repeat' (first | (apply AOps.nil; try simp only [List.nil_append, List.cons_append, List.set_cons_zero, List.set_cons_succ, List.length_cons, List.length_nil, Nat.reduceAdd, AV.sh, AV.sh1, AV.sh0, AO.sh, List.map_cons, List.map_nil, Nat.zero_add, Nat.add_zero, setAll]) | ((apply AOps.splitP; exact rfl; exact rfl) <;> intro h) | (apply w_move; exact rfl; exact rfl) | (apply w_assign; exact rfl; exact rfl) | apply AWp.seq | apply AWp.region | ((apply AWp.condP; exact rfl) <;> intro h) | (apply AWp.condF; exact rfl) | apply AWp.block | apply AWp.exit | apply AWp.skip | (apply AWp.regionQ; kernel_rfl; kernel_rfl) | (apply w_skip; exact rfl) | (apply w_pickT; exact rfl; exact rfl; exact rfl) | (apply w_pickF; exact rfl; exact rfl; exact rfl) | (apply w_len; exact rfl; exact rfl; first | exact .ints _ | exact .intss _ | exact .sli rfl | exact .sls rfl | exact .slr rfl | exact .orow rfl | exact .nil) | omega | ((first | apply w_lss | apply w_add | apply w_mul | apply w_idx | apply w_ld); iterate 3 exact rfl) | ((first | apply w_idxs | apply w_lds); iterate 3 exact rfl) | (apply inI_of <;> omega))
      exact ⟨k + 1, by omega, by omega, ⟨lee rfl (by (repeat (first | exact le_nil | refine le_eq rfl rfl ?_ | refine le_eq rfl (congrArg AV.i (by omega)) ?_))), by (repeat (exact lo_nil)), rfl, rfl⟩⟩
    · obtain rfl : k = n := by omega
      repeat' (first | (apply AOps.nil; try simp only [List.nil_append, List.cons_append, List.set_cons_zero, List.set_cons_succ, List.length_cons, List.length_nil, Nat.reduceAdd, AV.sh, AV.sh1, AV.sh0, AO.sh, List.map_cons, List.map_nil, Nat.zero_add, Nat.add_zero, setAll]) | ((apply AOps.splitP; exact rfl; exact rfl) <;> intro h) | (apply w_move; exact rfl; exact rfl) | (apply w_assign; exact rfl; exact rfl) | apply AWp.seq | apply AWp.region | (apply AWp.condF; exact rfl) | apply AWp.exit | (apply w_skip; exact rfl) | (apply w_pickF; exact rfl; exact rfl; exact rfl) | (apply w_len; exact rfl; exact rfl; first | exact .ints _ | exact .intss _ | exact .sli rfl | exact .sls rfl | exact .slr rfl | exact .orow rfl | exact .nil) | omega | ((first | apply w_lss | apply w_add | apply w_idx | apply w_ld); iterate 3 exact rfl) | ((first | apply w_idxs | apply w_lds); iterate 3 exact rfl) | (apply inI_of <;> omega))
      exact ⟨i + 1, by omega, by omega, ⟨lee rfl (by (repeat (first | exact le_nil | refine le_eq rfl rfl ?_))), by (repeat (exact lo_nil)), rfl, rfl⟩⟩
  · obtain rfl : i = n := by omega
    repeat' (first | (apply AOps.nil; try simp only [List.nil_append, List.cons_append, List.set_cons_zero, List.set_cons_succ, List.length_cons, List.length_nil, Nat.reduceAdd, AV.sh, AV.sh1, AV.sh0, AO.sh, List.map_cons, List.map_nil, Nat.zero_add, Nat.add_zero, setAll]) | ((apply AOps.splitP; exact rfl; exact rfl) <;> intro h) | (apply w_move; exact rfl; exact rfl) | (apply w_assign; exact rfl; exact rfl) | apply AWp.seq | apply AWp.region | (apply AWp.condF; exact rfl) | apply AWp.ret | apply AWp.exit | (apply w_skip; exact rfl) | (apply w_pickF; exact rfl; exact rfl; exact rfl) | (apply w_len; exact rfl; exact rfl; first | exact .ints _ | exact .intss _ | exact .sli rfl | exact .sls rfl | exact .slr rfl | exact .orow rfl | exact .nil) | omega | ((apply w_lss); iterate 3 exact rfl))
    all_goals exact .int Try.results16 rfl rfl
theorem mx_rl {n : Nat} {f : Nat → Nat → Int} {a : Nat} (h : a < n) : ((mx n f).getD a []).length = n := mx_rows _ (by
  rw [List.getD_eq_getElem?_getD, List.getElem?_eq_getElem (by rw [mx_len]; exact h)]
  exact List.getElem_mem _)
theorem upd_comm (f : Nat → Nat → Int) (a b c d : Nat) (v : Int) : upd (upd f a b v) c d v = upd (upd f c d v) a b v := by
  funext i j
  unfold upd
  split <;> split <;> rfl
set_option maxHeartbeats 16000000 in
theorem intersectionMatrix_c (W : List Int) (E : List (List Int)) (hn : W.length ≤ 40) (hl : E.length ≤ 40) (hE : ∀ e ∈ E, EIn W.length e) (hE2 : ∀ e ∈ E, e.length = 2) (hW : ∀ i : Int, -1000 ≤ geti W i ∧ geti W i ≤ 1000) :
    AFn Try.prog 29 [.agg [.ints W, .intss E]] (IsIntss 24 2 (mx W.length (imE W E))) := by
  have hs := square_c W.length hn
  rw [← im1_0 W] at hs
  (refine AFn.start Try.func29 Try.ntmps29 rfl (by kernel_rfl) fun hk => ?_; simp only [Env.start, enumF, List.length_cons, List.length_nil, Nat.reduceAdd, Nat.reduceSub, List.cons_append, List.nil_append])
  repeat' (first | (apply AOps.nil; try simp only [List.nil_append, List.cons_append, List.set_cons_zero, List.set_cons_succ, List.length_cons, List.length_nil, Nat.reduceAdd, AV.sh, AV.sh1, AV.sh0, AO.sh, List.map_cons, List.map_nil, Nat.zero_add, Nat.add_zero, setAll]) | (apply w_move; exact rfl; exact rfl) | (apply w_assign; exact rfl; exact rfl) | apply AWp.seq | apply AWp.region | apply AWp.block | (apply w_len; exact rfl; exact rfl; first | exact .ints _ | exact .intss _ | exact .sli rfl | exact .sls rfl | exact .slr rfl | exact .orow rfl | exact .nil) | (apply w_callm (hs); (focus ((repeat (first | exact im_nil | refine im_cons rfl (.val _) ?_)); done)); rintro r os0 ⟨rfl, rfl⟩; try simp only [List.nil_append, List.cons_append, List.set_cons_zero, List.set_cons_succ, List.length_cons, List.length_nil, Nat.reduceAdd, AV.sh, AV.sh1, AV.sh0, AO.sh, List.map_cons, List.map_nil, Nat.zero_add, Nat.add_zero, setAll]) | ((first | apply w_ld | apply w_fa); iterate 3 exact rfl) | ((apply w_boxa); iterate 2 exact rfl) | (apply w_ldb; iterate 5 exact rfl))
  refine AWp.loop (ι := Nat) (fun k => ⟨57, [(1, .optr 0 0), (3, .own 1), (13, .ints W), (14, .i W.length), (15, .i k)]⟩) (fun k => [.bx 27 [.ints W, .intss E], .sls 24 2 (mx W.length (im1 W k))]) (fun k => k ≤ W.length) (fun k => W.length - k) 0 (Nat.zero_le _) ⟨lee rfl (by (repeat (first | exact le_nil | refine le_eq rfl rfl ?_))), by (repeat (first | exact lo_nil | refine lo_eq rfl ?_)), rfl, rfl⟩ ?_
  intro k k0
  by_cases hk : k < W.length
  · have hlen := mx_len W.length (im1 W k)
    have hrl : ((mx W.length (im1 W k)).getD (k : Int).toNat []).length = W.length := mx_rows _ (by
      rw [List.getD_eq_getElem?_getD, List.getElem?_eq_getElem (by simp; omega)]
      exact List.getElem_mem _)
    have hwk := hW k
    repeat' (first | (apply AOps.nil; try simp only [List.nil_append, List.cons_append, List.set_cons_zero, List.set_cons_succ, List.length_cons, List.length_nil, Nat.reduceAdd, AV.sh, AV.sh1, AV.sh0, AO.sh, List.map_cons, List.map_nil, Nat.zero_add, Nat.add_zero, setAll]) | (apply w_move; exact rfl; exact rfl) | (apply w_assign; exact rfl; exact rfl) | apply AWp.seq | apply AWp.region | ((apply AWp.condP; exact rfl) <;> intro h) | apply AWp.block | apply AWp.exit | apply AWp.skip | (apply w_storp; exact rfl; exact rfl; rotate_left 2; exact rfl; rotate_left 2) | omega | ((first | apply w_lss | apply w_add | apply w_idx | apply w_ld); iterate 3 exact rfl) | (apply w_idxo; exact rfl; exact rfl; (exact .sls rfl); exact rfl) | ((first | apply w_idxr | apply w_ldr); iterate 4 exact rfl) | (apply w_ldls; iterate 4 exact rfl) | (apply inI_of <;> omega))
    simp only [Int.toNat_natCast]
    rw [mx_set hk, im1_step]
    exact ⟨k + 1, by omega, by omega, ⟨lee rfl (by (repeat (first | exact le_nil | refine le_eq rfl rfl ?_))), by (repeat (first | exact lo_nil | refine lo_eq rfl ?_)), rfl, rfl⟩⟩
  · obtain rfl : k = W.length := by omega
    rw [im1_n W E]
    repeat' (first | (apply AOps.nil; try simp only [List.nil_append, List.cons_append, List.set_cons_zero, List.set_cons_succ, List.length_cons, List.length_nil, Nat.reduceAdd, AV.sh, AV.sh1, AV.sh0, AO.sh, List.map_cons, List.map_nil, Nat.zero_add, Nat.add_zero, setAll]) | (apply w_move; exact rfl; exact rfl) | apply AWp.seq | apply AWp.region | ((apply AWp.condP; exact rfl) <;> intro h) | apply AWp.block | apply AWp.exit | apply AWp.skip | (apply w_len; exact rfl; exact rfl; first | exact .ints _ | exact .intss _ | exact .sli rfl | exact .sls rfl | exact .slr rfl | exact .orow rfl | exact .nil) | omega | ((first | apply w_lss | apply w_ld | apply w_fa); iterate 3 exact rfl) | (apply w_ldb; iterate 5 exact rfl))
    refine AWp.loop (ι := Nat) (fun k => ⟨57, [(3, .own 1), (29, .intss E), (30, .i E.length), (31, .i k)]⟩) (fun k => [.bx 27 [.ints W, .intss E], .sls 24 2 (mx W.length (im2 W E k))]) (fun k => k ≤ E.length) (fun k => E.length - k) 0 (Nat.zero_le _) ⟨lee rfl (by (repeat (first | exact le_nil | refine le_eq rfl rfl ?_))), by (repeat (first | exact lo_nil | refine lo_eq rfl ?_)), rfl, rfl⟩ ?_
    intro k k0
    by_cases hk : k < E.length
    · have hlen := mx_len W.length (im2 W E k)
      have hm := gets_mem (xss := E) (i := (k : Nat)) (by omega) (by omega)
      have he := hE _ hm
      have he2 := hE2 _ hm
      have hst : mx W.length (upd (upd (im2 W E k) (geti (gets E (k : Nat)) 0).toNat (geti (gets E (k : Nat)) 1).toNat 1) (geti (gets E (k : Nat)) 1).toNat (geti (gets E (k : Nat)) 0).toNat 1) = mx W.length (im2 W E (k + 1)) := im2_step (W := W) hk he
      obtain ⟨_, a0, ab, bn⟩ := he
      have hst2 := hst
      rw [upd_comm] at hst2
      have hA : (geti (gets E (k : Nat)) 0).toNat < W.length := by omega
      have hB : (geti (gets E (k : Nat)) 1).toNat < W.length := by omega
      have r1 := mx_rl (f := im2 W E k) hA
      have r2 := mx_rl (f := im2 W E k) hB
      have r3 := mx_rl (f := upd (im2 W E k) (geti (gets E (k : Nat)) 0).toNat (geti (gets E (k : Nat)) 1).toNat 1) hB
      have r4 := mx_rl (f := upd (im2 W E k) (geti (gets E (k : Nat)) 1).toNat (geti (gets E (k : Nat)) 0).toNat 1) hA
      have l1 := mx_len W.length (upd (im2 W E k) (geti (gets E (k : Nat)) 0).toNat (geti (gets E (k : Nat)) 1).toNat 1)
      have l2 := mx_len W.length (upd (im2 W E k) (geti (gets E (k : Nat)) 1).toNat (geti (gets E (k : Nat)) 0).toNat 1)
      rw [← mx_set hA] at r3 l1
      rw [← mx_set hB] at r4 l2
      rw [← mx_set hB, ← mx_set hA] at hst
      rw [← mx_set hA, ← mx_set hB] at hst2
      repeat' (first | (apply AOps.nil; try simp only [List.nil_append, List.cons_append, List.set_cons_zero, List.set_cons_succ, List.length_cons, List.length_nil, Nat.reduceAdd, AV.sh, AV.sh1, AV.sh0, AO.sh, List.map_cons, List.map_nil, Nat.zero_add, Nat.add_zero, setAll]) | (apply w_move; exact rfl; exact rfl) | (apply w_assign; exact rfl; exact rfl) | apply AWp.seq | apply AWp.region | ((apply AWp.condP; exact rfl) <;> intro h) | apply AWp.block | apply AWp.ret | apply AWp.exit | apply AWp.skip | omega | ((first | apply w_lss | apply w_idx | apply w_ld); iterate 3 exact rfl) | ((first | apply w_idxs | apply w_lds); iterate 3 exact rfl))
      refine AWp.regionG [] (by kernel_rfl) (envC := ⟨57, [(3, .own 1), (29, .intss E), (30, .i E.length), (31, .i k)]⟩) (osC := [.bx 27 [.ints W, .intss E], .sls 24 2 (mx W.length (im2 W E (k + 1)))]) rfl rfl ?_ ?_
      · repeat' (first | (apply AOps.nil; try simp only [List.nil_append, List.cons_append, List.set_cons_zero, List.set_cons_succ, List.length_cons, List.length_nil, Nat.reduceAdd, AV.sh, AV.sh1, AV.sh0, AO.sh, List.map_cons, List.map_nil, Nat.zero_add, Nat.add_zero, setAll]) | (apply w_move; exact rfl; exact rfl) | (apply w_storp; exact rfl; exact rfl; rotate_left 2; exact rfl; rotate_left 2) | apply AllOfG.nil | (apply AllOfG.consS; exact rfl; exact rfl) | (apply AAnyG.takeW; exact rfl; exact rfl; kernel_rfl; kernel_rfl) | (apply AAnyG.takeL; exact rfl; exact rfl; kernel_rfl) | (apply AAnyG.all; exact rfl) | (apply AAnyG.done; exact rfl) | omega | ((first | apply w_idx | apply w_ld); iterate 3 exact rfl) | (apply w_idxo; exact rfl; exact rfl; (exact .sls rfl); exact rfl) | ((first | apply w_idxr | apply w_ldr); iterate 4 exact rfl) | (apply w_ldls; iterate 4 exact rfl) | (apply inI_of <;> omega))
        all_goals first
          | rw [hst]
          | rw [hst2]
        all_goals (apply Or.inl; refine ⟨lee rfl ?_, ?_, rfl, rfl⟩; (focus ((repeat (first | exact le_nil | refine le_eq rfl rfl ?_)); done)); (focus ((repeat (first | exact lo_nil | refine lo_eq rfl ?_)); done)))
      repeat' (first | (apply AOps.nil; try simp only [List.nil_append, List.cons_append, List.set_cons_zero, List.set_cons_succ, List.length_cons, List.length_nil, Nat.reduceAdd, AV.sh, AV.sh1, AV.sh0, AO.sh, List.map_cons, List.map_nil, Nat.zero_add, Nat.add_zero, setAll]) | (apply w_move; exact rfl; exact rfl) | apply AWp.region | ((apply w_add); iterate 3 exact rfl) | (apply inI_of <;> omega))
      exact ⟨k + 1, by omega, by omega, ⟨lee rfl (by (repeat (first | exact le_nil | refine le_eq rfl rfl ?_))), by (repeat (first | exact lo_nil | refine lo_eq rfl ?_)), rfl, rfl⟩⟩
    · obtain rfl : k = E.length := by omega
      rw [im2_n hE2]
      repeat' (first | (apply AOps.nil; try simp only [List.nil_append, List.cons_append, List.set_cons_zero, List.set_cons_succ, List.length_cons, List.length_nil, Nat.reduceAdd, AV.sh, AV.sh1, AV.sh0, AO.sh, List.map_cons, List.map_nil, Nat.zero_add, Nat.add_zero, setAll]) | (apply w_move; exact rfl; exact rfl) | (apply w_assign; exact rfl; exact rfl) | apply AWp.seq | apply AWp.region | ((apply AWp.condP; exact rfl) <;> intro h) | apply AWp.block | apply AWp.ret | apply AWp.exit | apply AWp.skip | omega | ((apply w_lss); iterate 3 exact rfl))
      all_goals exact ⟨_, _, _, .v1 Try.results29 rfl, .sls rfl, rfl, rfl⟩
end Go.Proofs.Ythjkpmjdkcainaa
/-
  The intersection matrix and the labels of a graph. Condition: a graph.
-/
namespace Go.Proofs.Ythjkpmjdkcainaa
open Go Go.RowKit
attribute [local irreducible] AWp AOps ResIs Ret1 QOp LOp COp AFnV AFn Imms LeE LeO
set_option maxHeartbeats 1000000
set_option linter.unusedSimpArgs false
set_option linter.unusedVariables false

theorem implMatrix_c (W : List Int) (E : List (List Int)) (h : gok W E = true) : AFn Try.prog 13 [.agg [.ints W, .intss E]] (fun r os => r = .tup [.own 0, .i 0] ∧ os = [.sls 24 2 (mx W.length (imE W E))]) := by
  have hg := isGraph_c W E
  rw [h] at hg
  have hh := gok_iff.1 h
  have hn := hh.n
  have hm := intersectionMatrix_c W E hn.2 (by have := hh.len; omega) hh.row (fun e he => (hh.row e he).1) (within_geti hh.w)
  (refine AFn.start Try.func13 Try.ntmps13 rfl (by kernel_rfl) fun hk => ?_; simp only [Env.start, enumF, List.length_cons, List.length_nil, Nat.reduceAdd, Nat.reduceSub, List.cons_append, List.nil_append])
  repeat' (first | (apply AOps.nil; try simp only [List.nil_append, List.cons_append, List.set_cons_zero, List.set_cons_succ, List.length_cons, List.length_nil, Nat.reduceAdd, AV.sh, AV.sh1, AV.sh0, AO.sh, List.map_cons, List.map_nil, Nat.zero_add, Nat.add_zero, setAll]) | (apply w_assign; exact rfl; exact rfl) | apply AWp.seq | apply AWp.region | (apply AWp.condF; exact rfl) | apply AWp.ret | apply AWp.skip | (apply w_call (hg); exact rfl; exact rfl; focus ((repeat (first | exact im_nil | refine im_cons rfl (im_agg2 (.ints _) (.intss _)) ?_)); done)) | (apply w_callm (hm); (focus ((repeat (first | exact im_nil | refine im_cons rfl (im_agg2 (.ints _) (.intss _)) ?_)); done)); rintro r os0 ⟨rfl, rfl⟩; try simp only [List.nil_append, List.cons_append, List.set_cons_zero, List.set_cons_succ, List.length_cons, List.length_nil, Nat.reduceAdd, AV.sh, AV.sh1, AV.sh0, AO.sh, List.map_cons, List.map_nil, Nat.zero_add, Nat.add_zero, setAll]) | ((first | apply w_not | apply w_boxa); iterate 2 exact rfl) | (apply w_ldst; iterate 5 exact rfl))
  all_goals exact ⟨_, _, _, .a2 Try.results13 rfl rfl, .tup2 (.sls rfl), rfl, rfl⟩
theorem implLabels_c (W : List Int) (E : List (List Int)) (h : gok W E = true) : AFn Try.prog 12 [.agg [.ints W, .intss E]] (fun r os => r = .tup [.own 0, .i 0] ∧ os = [.sli 2 (labF W.length E)]) := by
  have hg := isGraph_c W E
  rw [h] at hg
  have hh := gok_iff.1 h
  have hn := hh.n
  have hm := labels_c W.length E hn.2 (by have := hh.len; omega) hh.row
  (refine AFn.start Try.func12 Try.ntmps12 rfl (by kernel_rfl) fun hk => ?_; simp only [Env.start, enumF, List.length_cons, List.length_nil, Nat.reduceAdd, Nat.reduceSub, List.cons_append, List.nil_append])
  repeat' (first | (apply AOps.nil; try simp only [List.nil_append, List.cons_append, List.set_cons_zero, List.set_cons_succ, List.length_cons, List.length_nil, Nat.reduceAdd, AV.sh, AV.sh1, AV.sh0, AO.sh, List.map_cons, List.map_nil, Nat.zero_add, Nat.add_zero, setAll]) | (apply w_assign; exact rfl; exact rfl) | apply AWp.seq | apply AWp.region | (apply AWp.condF; exact rfl) | apply AWp.ret | apply AWp.skip | (apply w_len; exact rfl; exact rfl; first | exact .ints _ | exact .intss _ | exact .sli rfl | exact .sls rfl | exact .slr rfl | exact .orow rfl | exact .nil) | (apply w_call (hg); exact rfl; exact rfl; focus ((repeat (first | exact im_nil | refine im_cons rfl (im_agg2 (.ints _) (.intss _)) ?_)); done)) | (apply w_callm (hm); (focus ((repeat (first | exact im_nil | refine im_cons rfl (.val _) ?_ | refine im_cons rfl (.intss _) ?_)); done)); rintro r os0 ⟨rfl, rfl⟩; try simp only [List.nil_append, List.cons_append, List.set_cons_zero, List.set_cons_succ, List.length_cons, List.length_nil, Nat.reduceAdd, AV.sh, AV.sh1, AV.sh0, AO.sh, List.map_cons, List.map_nil, Nat.zero_add, Nat.add_zero, setAll]) | ((first | apply w_ld | apply w_fa); iterate 3 exact rfl) | ((first | apply w_not | apply w_boxa); iterate 2 exact rfl) | (apply w_ldb; iterate 5 exact rfl) | (apply w_ldst; iterate 5 exact rfl))
  all_goals exact ⟨_, _, _, .a2 Try.results12 rfl rfl, .tup2 (.sli rfl), rfl, rfl⟩
end Go.Proofs.Ythjkpmjdkcainaa
/-
  Numbers of components: the first vertex of a number is a root. No condition.
-/
namespace Go.Proofs.Ythjkpmjdkcainaa
open Go Go.RowKit
section
variable {n : Nat} {near : Int → List Int}

def setT (L o : List Int) (m : Int) : List Int := o.foldl (fun L x => L.set x.toNat m) L
theorem setT_snoc (L o : List Int) (x m : Int) : setT L (o ++ [x]) m = (setT L o m).set x.toNat m := by simp [setT]
theorem setT_len (m : Int) : ∀ (o L : List Int), (setT L o m).length = L.length
  | [], _ => rfl
  | x :: o, L => by
    show (setT (L.set x.toNat m) o m).length = _
    rw [setT_len m o, List.length_set]
theorem setT_get (m : Int) : ∀ (o L : List Int), (∀ x ∈ o, 0 ≤ x ∧ x < L.length) → ∀ y : Int, 0 ≤ y → geti (setT L o m) y = if y ∈ o then m else geti L y
  | [], L, _, y, _ => by simp [setT]
  | x :: o, L, h, y, hy => by
    show geti (setT (L.set x.toNat m) o m) y = _
    rw [setT_get m o _ (fun z hz => by rw [List.length_set]; exact h z (by simp [hz])) y hy]
    have hx := h x (by simp)
    by_cases h1 : y ∈ o
    · rw [if_pos h1, if_pos (by simp [h1])]
    · rw [if_neg h1, geti_st hx.1 hy hx.2]
      by_cases e : y = x
      · rw [if_pos e, if_pos (by simp [e])]
      · rw [if_neg e, if_neg (by simp [e, h1])]
/-- What the numbers of the vertices say after i vertices. -/
structure LbI (n : Nat) (near : Int → List Int) (i : Nat) (L : List Int) (m : Int) : Prop where
  len : L.length = n
  num : m = (rts n near i).length
  cov : ∀ x : Int, 0 ≤ x → x < n → (0 ≤ geti L x ↔ ∃ r ∈ rts n near i, x ∈ (trC n near r).1)
  lt : ∀ x : Int, 0 ≤ x → x < n → geti L x < m ∨ m = 0
  lo : ∀ x : Int, 0 ≤ x → x < n → -1 ≤ geti L x ∧ geti L x < n
  same : ∀ x y : Int, 0 ≤ x → x < n → 0 ≤ y → y < n → 0 ≤ geti L x → 0 ≤ geti L y → (geti L x = geti L y ↔ ∃ r ∈ rts n near i, x ∈ (trC n near r).1 ∧ y ∈ (trC n near r).1)
theorem rep_get {x : Int} (h0 : 0 ≤ x) (h1 : x < n) : geti (List.replicate n (-1)) x = -1 := by
  have : x.toNat < n := by omega
  simp [geti, List.getD_eq_getElem?_getD, this]
theorem LbI.start (hn : 0 < n) : LbI n near 0 (List.replicate n (-1)) 0 := by
  refine ⟨by simp, by simp [rts], fun x h0 h1 => ?_, fun x h0 h1 => .inr rfl, fun x h0 h1 => ?_, fun x y h0 h1 h2 h3 h4 => ?_⟩
  · rw [rep_get h0 h1]; simp [rts]
  · rw [rep_get h0 h1]; omega
  · rw [rep_get h0 h1] at h4; omega
theorem LbI.skip {i : Nat} {L : List Int} {m : Int} (h : LbI n near i L m) (hi : i < n) (hc : 0 ≤ geti L (i : Nat)) : LbI n near (i + 1) L m := by
  have hr := (h.cov (i : Nat) (by omega) (by omega)).1 hc
  have er : rts n near (i + 1) = rts n near i := by rw [rts, if_pos hr]
  exact ⟨h.len, by rw [er]; exact h.num, by rw [er]; exact h.cov, h.lt, h.lo, by rw [er]; exact h.same⟩
theorem LbI.new (hF : Fst n near) {i : Nat} {L o p : List Int} {m : Int} (h : LbI n near i L m) (hi : i < n) (hc : ¬ 0 ≤ geti L (i : Nat)) (ht : Tr n near (i : Nat) o p) : LbI n near (i + 1) (setT L o m) (m + 1) ∧ m < n := by
  have hno : ¬ ∃ r ∈ rts n near i, (i : Int) ∈ (trC n near r).1 := fun hh => hc ((h.cov (i : Nat) (by omega) (by omega)).2 hh)
  have er : rts n near (i + 1) = rts n near i ++ [(i : Int)] := by rw [rts, if_neg hno]
  have hT := trC_ok hF (r := (i : Nat)) ⟨by omega, by omega⟩
  have hio := ht.iff hT
  have hg := fun y hy => setT_get m o L (fun x hx => by have := ht.rng x hx; have := h.len; omega) y hy
  have hl := h.len
  have hm := h.num
  have hrl := rts_len n near i
  have hdis : ∀ r ∈ rts n near i, ∀ x, x ∈ o → x ∉ (trC n near r).1 := fun r hr x hx hx' => by
    have h1 := rts_rng n near i r hr
    exact Tr.disj (trC_ok hF ⟨h1.1, by omega⟩) hT hF (fun hh => hno ⟨r, hr, hh⟩) x ((hio x).1 hx) hx'
  refine ⟨⟨by rw [setT_len]; exact hl, by rw [er, List.length_append, List.length_singleton]; omega, fun x h0 h1 => ?_, fun x h0 h1 => ?_, fun x h0 h1 => ?_, fun x y h0 h1 h2 h3 h4 h5 => ?_⟩, by omega⟩
  · rw [hg x h0, er]
    by_cases hx : x ∈ o
    · rw [if_pos hx]
      exact ⟨fun _ => ⟨(i : Nat), by simp, (hio x).1 hx⟩, fun _ => by omega⟩
    · rw [if_neg hx, h.cov x h0 h1]
      constructor
      · rintro ⟨r, hr, hm⟩; exact ⟨r, by simp [hr], hm⟩
      · rintro ⟨r, hr, hm⟩
        rcases List.mem_append.1 hr with hr | hr
        · exact ⟨r, hr, hm⟩
        · rw [List.mem_singleton.1 hr] at hm
          exact absurd ((hio x).2 hm) hx
  · rw [hg x h0]
    left
    by_cases hx : x ∈ o
    · rw [if_pos hx]; omega
    · rw [if_neg hx]
      rcases h.lt x h0 h1 with h6 | h6
      · omega
      · have h7 := h.cov x h0 h1
        have : rts n near i = [] := List.eq_nil_of_length_eq_zero (by omega)
        rw [this] at h7
        have : ¬ 0 ≤ geti L x := fun hh => by obtain ⟨r, hr, _⟩ := h7.1 hh; cases hr
        omega
  · rw [hg x h0]
    by_cases hx : x ∈ o
    · rw [if_pos hx]; omega
    · rw [if_neg hx]; exact h.lo x h0 h1
  · rw [hg x h0] at h4 ⊢
    rw [hg y h2] at h5 ⊢
    rw [er]
    have hlt : ∀ z : Int, 0 ≤ z → z < n → 0 ≤ geti L z → geti L z < m := fun z z0 z1 z2 => by
      rcases h.lt z z0 z1 with h6 | h6
      · exact h6
      · have h7 := (h.cov z z0 z1).1 z2
        have : rts n near i = [] := List.eq_nil_of_length_eq_zero (by omega)
        rw [this] at h7
        obtain ⟨r, hr, _⟩ := h7; cases hr
    by_cases hx : x ∈ o <;> by_cases hy : y ∈ o
    · rw [if_pos hx, if_pos hy]
      exact ⟨fun _ => ⟨(i : Nat), by simp, (hio x).1 hx, (hio y).1 hy⟩, fun _ => rfl⟩
    · rw [if_pos hx, if_neg hy] at *
      have := hlt y h2 h3 h5
      constructor
      · intro h8; omega
      · rintro ⟨r, hr, q1, q2⟩
        rcases List.mem_append.1 hr with hr | hr
        · exact absurd q1 (hdis r hr x hx)
        · rw [List.mem_singleton.1 hr] at q2
          exact absurd ((hio y).2 q2) hy
    · rw [if_neg hx, if_pos hy] at *
      have := hlt x h0 h1 h4
      constructor
      · intro h8; omega
      · rintro ⟨r, hr, q1, q2⟩
        rcases List.mem_append.1 hr with hr | hr
        · exact absurd q2 (hdis r hr y hy)
        · rw [List.mem_singleton.1 hr] at q1
          exact absurd ((hio x).2 q1) hx
    · rw [if_neg hx, if_neg hy] at *
      rw [h.same x y h0 h1 h2 h3 h4 h5]
      constructor
      · rintro ⟨r, hr, q1, q2⟩; exact ⟨r, by simp [hr], q1, q2⟩
      · rintro ⟨r, hr, q1, q2⟩
        rcases List.mem_append.1 hr with hr | hr
        · exact ⟨r, hr, q1, q2⟩
        · rw [List.mem_singleton.1 hr] at q1
          exact absurd ((hio x).2 q1) hx
theorem rts_mono (n : Nat) (near : Int → List Int) {i : Nat} {r : Int} (h : r ∈ rts n near i) : ∀ j, i ≤ j → r ∈ rts n near j := by
  intro j hj
  induction hj with
  | refl => exact h
  | step _ ih =>
    rw [rts]; split
    · exact ih
    · exact List.mem_append.2 (.inl ih)
theorem rts_iff (hF : Fst n near) {v : Nat} (hv : v < n) : ((v : Int) ∈ rts n near n ↔ ¬ ∃ r ∈ rts n near v, (v : Int) ∈ (trC n near r).1) := by
  have hT := trC_ok hF (r := (v : Nat)) ⟨by omega, by omega⟩
  constructor
  · rintro h ⟨r, hr, hm⟩
    have h1 := rts_rng n near v r hr
    have := rts_uniq hF (rts_mono n near hr n (by omega)) h hm hT.rt
    omega
  · intro h
    refine rts_mono n near (i := v + 1) ?_ n (by omega)
    rw [rts, if_neg h]; simp
theorem rts_step (hF : Fst n near) {v : Nat} (hv : v < n) : rts n near (v + 1) = if (v : Int) ∈ rts n near n then rts n near v ++ [(v : Int)] else rts n near v := by
  by_cases h : (v : Int) ∈ rts n near n
  · rw [if_pos h, rts, if_neg ((rts_iff hF hv).1 h)]
  · rw [if_neg h, rts, if_pos]
    exact Classical.byContradiction fun hh => h ((rts_iff hF hv).2 hh)
/-- The first vertex with its number: a root. -/
theorem LbI.first (hF : Fst n near) {L : List Int} {m : Int} (h : LbI n near n L m) {v : Nat} (hv : v < n) : (∀ j : Nat, j < v → geti L (j : Nat) ≠ geti L (v : Nat)) ↔ (v : Int) ∈ rts n near n := by
  have hpos : ∀ x : Nat, x < n → 0 ≤ geti L (x : Nat) := fun x hx => (h.cov (x : Nat) (by omega) (by omega)).2 (rts_cov hF n (Nat.le_refl _) (x : Nat) (by omega) (by omega))
  have hcv : ∀ x : Nat, x < n → ∃ r ∈ rts n near n, (x : Int) ∈ (trC n near r).1 ∧ 0 ≤ r ∧ r ≤ x := fun x hx => by
    obtain ⟨r, hr, hm⟩ := rts_cov hF (x + 1) (by omega) (x : Nat) (by omega) (by omega)
    have := rts_rng n near (x + 1) r hr
    exact ⟨r, rts_mono n near hr n (by omega), hm, this.1, by omega⟩
  constructor
  · intro hj
    obtain ⟨r, hr, hm, r0, r1⟩ := hcv v hv
    by_cases e : r = (v : Int)
    · rw [← e]; exact hr
    · obtain ⟨q, rfl⟩ := Int.eq_ofNat_of_zero_le r0
      exfalso
      refine hj q (by omega) ?_
      refine (h.same (q : Nat) (v : Nat) (by omega) (by omega) (by omega) (by omega) (hpos q (by omega)) (hpos v hv)).2 ⟨(q : Nat), hr, ?_, hm⟩
      exact (trC_ok hF (r := (q : Nat)) ⟨by omega, by omega⟩).rt
  · intro hv' j hj he
    obtain ⟨r, hr, q1, q2⟩ := (h.same (j : Nat) (v : Nat) (by omega) (by omega) (by omega) (by omega) (hpos j (by omega)) (hpos v hv)).1 he
    have e := rts_uniq hF hr hv' q2 (trC_ok hF (r := (v : Nat)) ⟨by omega, by omega⟩).rt
    subst e
    obtain ⟨r', hr', q3, q4, q5⟩ := hcv j (by omega)
    have := rts_uniq hF hr' hv' q3 q1
    omega
/-- The numbers of the components. -/
noncomputable def labS (n : Nat) (near : Int → List Int) : Nat → List Int
  | 0 => List.replicate n (-1)
  | i + 1 => open Classical in if ∃ r ∈ rts n near i, (i : Int) ∈ (trC n near r).1 then labS n near i else setT (labS n near i) (trC n near (i : Nat)).1 (rts n near i).length
theorem setT_same {L o o' : List Int} {m : Int} (h : ∀ x ∈ o, 0 ≤ x ∧ x < L.length) (h' : ∀ x ∈ o', 0 ≤ x ∧ x < L.length) (e : ∀ x, x ∈ o ↔ x ∈ o') : setT L o m = setT L o' m := by
  apply List.ext_getElem (by rw [setT_len, setT_len])
  intro k h1 h2
  have g1 := setT_get m o L h (k : Nat) (by omega)
  have g2 := setT_get m o' L h' (k : Nat) (by omega)
  have e1 : geti (setT L o m) (k : Nat) = (setT L o m)[k] := by simp [geti, List.getD_eq_getElem?_getD, List.getElem?_eq_getElem h1]
  have e2 : geti (setT L o' m) (k : Nat) = (setT L o' m)[k] := by simp [geti, List.getD_eq_getElem?_getD, List.getElem?_eq_getElem h2]
  rw [← e1, ← e2, g1, g2]
  simp only [e]
theorem labS_skip {i : Nat} {L : List Int} {m : Int} (h : LbI n near i L m) (hi : i < n) (hc : 0 ≤ geti L (i : Nat)) (e : L = labS n near i) : L = labS n near (i + 1) := by
  have hr := (h.cov (i : Nat) (by omega) (by omega)).1 hc
  rw [labS, if_pos hr]; exact e
theorem labS_new (hF : Fst n near) {i : Nat} {L o p : List Int} {m : Int} (h : LbI n near i L m) (hi : i < n) (hc : ¬ 0 ≤ geti L (i : Nat)) (ht : Tr n near (i : Nat) o p) (e : L = labS n near i) : setT L o m = labS n near (i + 1) := by
  have hno : ¬ ∃ r ∈ rts n near i, (i : Int) ∈ (trC n near r).1 := fun hh => hc ((h.cov (i : Nat) (by omega) (by omega)).2 hh)
  have hT := trC_ok hF (r := (i : Nat)) ⟨by omega, by omega⟩
  rw [labS, if_neg hno, ← e, h.num]
  exact setT_same (fun x hx => by have := ht.rng x hx; have := h.len; omega) (fun x hx => by have := hT.rng x hx; have := h.len; omega) (ht.iff hT)
end
end Go.Proofs.Ythjkpmjdkcainaa
/-
  Branch determinants by orders that are run backwards. No condition.
-/
namespace Go.Proofs.Ythjkpmjdkcainaa
open Go Go.RowKit
section
variable {n : Nat} {near : Int → List Int} {W : List Int}

def VlAt (n : Nat) (near : Int → List Int) (W p f h : List Int) (x : Int) : Prop := ∃ a b, FG n near W p x = some (a, b) ∧ geti f x = b ∧ geti h x = a
structure OutI (n : Nat) (near : Int → List Int) (W : List Int) (i : Nat) (f h : List Int) : Prop where
  lf : f.length = n
  lh : h.length = n
  bf : ∀ x ∈ f, inM x
  bh : ∀ x ∈ h, inM x
  vl : ∀ r ∈ rts n near i, ∀ x ∈ (trC n near r).1, VlAt n near W (trC n near r).2 f h x
theorem OutI.start : OutI n near W 0 (List.replicate n 0) (List.replicate n 0) :=
  ⟨by simp, by simp, fun x hx => by rw [List.eq_of_mem_replicate hx]; exact inM0, fun x hx => by rw [List.eq_of_mem_replicate hx]; exact inM0, fun r hr => by simp [rts] at hr⟩
structure MidI (n : Nat) (near : Int → List Int) (W o p f0 h0 : List Int) (t : Nat) (f h : List Int) : Prop where
  le : t ≤ o.length
  lf : f.length = n
  lh : h.length = n
  bf : ∀ x ∈ f, inM x
  bh : ∀ x ∈ h, inM x
  vl : ∀ (q : Nat) (x : Int), t ≤ q → o[q]? = some x → VlAt n near W p f h x
  fr : ∀ x : Int, 0 ≤ x → x ∉ o → geti f x = geti f0 x ∧ geti h x = geti h0 x
theorem MidI.start {i : Nat} {o p f h : List Int} (hO : OutI n near W i f h) : MidI n near W o p f h o.length f h :=
  ⟨Nat.le_refl _, hO.lf, hO.lh, hO.bf, hO.bh, fun q x hq hx => (by rw [List.getElem?_eq_none hq] at hx; cases hx), fun _ _ _ => ⟨rfl, rfl⟩⟩
theorem MidI.child {r v c : Int} {o p f0 h0 f h : List Int} {t : Nat} (hT : Tr n near r o p) (hM : MidI n near W o p f0 h0 (t + 1) f h) (hv : o[t]? = some v) (hc : c ∈ near v) (hp : c ≠ geti p v) : VlAt n near W p f h c := by
  obtain ⟨c1, c2, c3⟩ := hT.ch (List.mem_of_getElem? hv) hc hp
  obtain ⟨j, hj⟩ := List.getElem?_of_mem c1
  obtain ⟨m, y, m1, m2, m3, _⟩ := hT.par hj c2
  rw [c3] at m3
  subst m3
  have := nd_get hT.nd m2 hv
  exact hM.vl j c (by omega) hj
theorem mem_set' {l : List Int} {k : Nat} {v : Int} {P : Int → Prop} (h : ∀ x ∈ l, P x) (hv : P v) : ∀ x ∈ l.set k v, P x := fun x hx => by
  rcases List.mem_or_eq_of_mem_set hx with hx | hx
  · exact h x hx
  · rw [hx]; exact hv
theorem MidI.put {r v P R : Int} {o p f0 h0 f h : List Int} {t : Nat} (hT : Tr n near r o p) (hM : MidI n near W o p f0 h0 (t + 1) f h) (hv : o[t]? = some v) (hF : FG n near W p v = some (P, R)) (hP : inM P) (hR : inM R) :
    MidI n near W o p f0 h0 t (f.set v.toNat R) (h.set v.toNat P) := by
  have hvm := List.mem_of_getElem? hv
  have hvr := hT.rng v hvm
  have lf := hM.lf
  have lh := hM.lh
  refine ⟨by have := hM.le; omega, by rw [List.length_set]; exact lf, by rw [List.length_set]; exact lh, mem_set' hM.bf hR, mem_set' hM.bh hP, fun q x hq hx => ?_, fun x hx hno => ?_⟩
  · have hxr := hT.rng x (List.mem_of_getElem? hx)
    by_cases e : x = v
    · subst e
      exact ⟨P, R, hF, by rw [geti_st hvr.1 hxr.1 (by omega), if_pos rfl], by rw [geti_st hvr.1 hxr.1 (by omega), if_pos rfl]⟩
    · have hqt : t + 1 ≤ q := by
        have : q ≠ t := fun hh => by subst hh; rw [hv] at hx; exact e (Option.some.inj hx).symm
        omega
      obtain ⟨a, b, q1, q2, q3⟩ := hM.vl q x hqt hx
      exact ⟨a, b, q1, by rw [geti_st hvr.1 hxr.1 (by omega), if_neg e]; exact q2, by rw [geti_st hvr.1 hxr.1 (by omega), if_neg e]; exact q3⟩
  · have e : x ≠ v := fun hh => hno (hh ▸ hvm)
    obtain ⟨q1, q2⟩ := hM.fr x hx hno
    exact ⟨by rw [geti_st hvr.1 hx (by omega), if_neg e]; exact q1, by rw [geti_st hvr.1 hx (by omega), if_neg e]; exact q2⟩
theorem MidI.done (hF : Fst n near) {i : Nat} {o p f0 h0 f h : List Int} (hi : i < n) (hT : Tr n near (i : Nat) o p) (hO : OutI n near W i f0 h0) (hM : MidI n near W o p f0 h0 0 f h) (hr : (i : Int) ∈ rts n near n) : OutI n near W (i + 1) f h := by
  have hno := (rts_iff hF hi).1 hr
  have hC := trC_ok hF (r := (i : Nat)) ⟨by omega, by omega⟩
  have hio := hT.iff hC
  refine ⟨hM.lf, hM.lh, hM.bf, hM.bh, fun r hr' x hx => ?_⟩
  rw [rts_step hF hi, if_pos hr] at hr'
  rcases List.mem_append.1 hr' with hr' | hr'
  · have h1 := rts_rng n near i r hr'
    have hxo : x ∉ o := fun hh => Tr.disj (trC_ok hF (r := r) ⟨h1.1, by omega⟩) hC hF (fun hh => hno ⟨r, hr', hh⟩) x ((hio x).1 hh) hx
    have hx0 := ((trC_ok hF (r := r) ⟨h1.1, by omega⟩).rng x hx).1
    obtain ⟨a, b, q1, q2, q3⟩ := hO.vl r hr' x hx
    obtain ⟨q4, q5⟩ := hM.fr x hx0 hxo
    exact ⟨a, b, q1, by rw [q4]; exact q2, by rw [q5]; exact q3⟩
  · rw [List.mem_singleton.1 hr'] at hx ⊢
    have hxo := (hio x).2 hx
    obtain ⟨j, hj⟩ := List.getElem?_of_mem hxo
    obtain ⟨a, b, q1, q2, q3⟩ := hM.vl j x (Nat.zero_le _) hj
    exact ⟨a, b, by rw [← FG_uniq hT hC x hxo]; exact q1, q2, q3⟩
theorem OutI.skip (hF : Fst n near) {i : Nat} {f h : List Int} (hi : i < n) (hO : OutI n near W i f h) (hr : ¬ (i : Int) ∈ rts n near n) : OutI n near W (i + 1) f h :=
  ⟨hO.lf, hO.lh, hO.bf, hO.bh, by rw [rts_step hF hi, if_neg hr]; exact hO.vl⟩
theorem OutI.fin (hF : Fst n near) {f h : List Int} (hO : OutI n near W n f h) : bdOk n near W ∧ f = bdF n near W ∧ h = bdG n near W := by
  have hx : ∀ x : Int, 0 ≤ x → x < n → VlAt n near W (trC n near (rootOf n near x)).2 f h x := fun x h0 h1 => by
    obtain ⟨h3, h4⟩ := rootOf_ok hF ⟨h0, h1⟩
    exact hO.vl _ h3 x h4
  refine ⟨fun r hr x hx => ?_, list_eq (F := fun x => ((bdV n near W x).getD (0, 0)).2) hO.lf fun x h0 h1 => ?_, list_eq (F := fun x => ((bdV n near W x).getD (0, 0)).1) hO.lh fun x h0 h1 => ?_⟩
  · obtain ⟨a, b, q1, _⟩ := hO.vl r hr x hx
    rw [q1]; simp
  · obtain ⟨a, b, q1, q2, q3⟩ := hx x h0 h1
    show geti f x = ((bdV n near W x).getD (0, 0)).2
    unfold bdV; rw [q1]; exact q2
  · obtain ⟨a, b, q1, q2, q3⟩ := hx x h0 h1
    show geti h x = ((bdV n near W x).getD (0, 0)).1
    unfold bdV; rw [q1]; exact q3
/-- The children seen so far. -/
def InV (n : Nat) (near : Int → List Int) (W p : List Int) (v : Int) (k : Nat) (P R : Int) : Prop := fO (FG n near W p) (((near v).take k).filter fun u => decide (u ≠ geti p v)) (1, -geti W v) = some (P, R)
theorem InV.start {p : List Int} {v : Int} : InV n near W p v 0 1 (-geti W v) := by simp [InV, fO]
theorem take_in {l : List Int} {k : Nat} {u : Int} (hu : l[k]? = some u) : l.take (k + 1) = l.take k ++ [u] := by rw [List.take_add_one, hu]; rfl
theorem InV.skip {p : List Int} {v u P R : Int} {k : Nat} (h : InV n near W p v k P R) (hu : (near v)[k]? = some u) (he : u = geti p v) : InV n near W p v (k + 1) P R := by
  unfold InV at *
  rw [take_in hu, List.filter_append, List.filter_cons_of_neg (by simp [he])]
  simpa using h
theorem InV.one {p : List Int} {v u P R : Int} {k : Nat} (h : InV n near W p v k P R) (hu : (near v)[k]? = some u) (he : u ≠ geti p v) :
    fO (FG n near W p) (((near v).take (k + 1)).filter fun u => decide (u ≠ geti p v)) (1, -geti W v) = fO (FG n near W p) [u] (P, R) := by
  unfold InV at h
  rw [take_in hu, List.filter_append, List.filter_cons_of_pos (by simpa using he), fO_app, h]
  rfl
theorem InV.step {p f h : List Int} {v u P R : Int} {k : Nat} (hI : InV n near W p v k P R) (hu : (near v)[k]? = some u) (he : u ≠ geti p v) (hV : VlAt n near W p f h u) (hk : okS P R (geti f u) (geti h u) = true) :
    InV n near W p v (k + 1) (P * geti f u) (R * geti f u - P * geti h u) := by
  obtain ⟨a, b, q1, rfl, rfl⟩ := hV
  unfold InV
  rw [hI.one hu he, fO, q1]
  simp only
  rw [if_pos hk]; rfl
theorem InV.bad {r : Int} {o p f h : List Int} {v u P R : Int} {k : Nat} (hT : Tr n near r o p) (hv : v ∈ o) (hI : InV n near W p v k P R) (hu : (near v)[k]? = some u) (he : u ≠ geti p v) (hV : VlAt n near W p f h u) (hk : ¬ okS P R (geti f u) (geti h u) = true) : FG n near W p v = none := by
  obtain ⟨a, b, q1, rfl, rfl⟩ := hV
  rw [FG_eq hT hv]
  unfold chl
  rw [show (near v) = (near v).take (k + 1) ++ (near v).drop (k + 1) from (List.take_append_drop _ _).symm, List.filter_append, fO_app, hI.one hu he, fO, q1]
  simp only
  rw [if_neg hk]; rfl
theorem InV.fin {r : Int} {o p : List Int} {v P R : Int} (hT : Tr n near r o p) (hv : v ∈ o) (hI : InV n near W p v (near v).length P R) : FG n near W p v = some (P, R) := by
  unfold InV at hI
  rw [List.take_length] at hI
  rw [FG_eq hT hv]; exact hI
theorem bd_bad (hF : Fst n near) {i : Nat} {o p : List Int} {v : Int} (hi : i < n) (hr : (i : Int) ∈ rts n near n) (hT : Tr n near (i : Nat) o p) (hv : v ∈ o) (hn : FG n near W p v = none) : ¬ bdOk n near W := by
  have hC := trC_ok hF (r := (i : Nat)) ⟨by omega, by omega⟩
  intro hb
  refine hb _ hr v ((hT.iff hC v).1 hv) ?_
  rw [← FG_uniq hT hC v hv]; exact hn
end
end Go.Proofs.Ythjkpmjdkcainaa
/-
  Neighbours and trees, walked: the reference. Condition: a forest of at most 40 vertices.
-/
namespace Go.Proofs.Ythjkpmjdkcainaa
open Go Go.RowKit
attribute [local irreducible] AWp AOps ResIs Ret1 QOp LOp COp AFnV AFn Imms LeE LeO
set_option maxHeartbeats 1000000
set_option linter.unusedSimpArgs false
set_option linter.unusedVariables false

theorem all_nil' {α : Type} {p : α → Prop} : ∀ x ∈ ([] : List α), p x := fun _ h => by cases h
theorem all_cons' {α : Type} {p : α → Prop} {a : α} {l : List α} (h : p a) (hs : ∀ x ∈ l, p x) : ∀ x ∈ a :: l, p x := fun x hx => by
  rcases List.mem_cons.1 hx with rfl | hx
  · exact h
  · exact hs x hx
def nr1 (E : List (List Int)) (v : Int) : List Int := (E.filter fun e => decide (geti e 1 = v)).map fun e => geti e 0
def nr0 (E : List (List Int)) (v : Int) : List Int := (E.filter fun e => decide (geti e 0 = v)).map fun e => geti e 1
theorem near_cut (E : List (List Int)) (v : Int) : nearL E v = nr1 E v ++ nr0 E v := rfl
theorem nr1_len (E : List (List Int)) (v : Int) : (nr1 E v).length ≤ E.length := by
  unfold nr1; rw [List.length_map]; exact List.length_filter_le _ _
theorem nr0_len (E : List (List Int)) (v : Int) : (nr0 E v).length ≤ E.length := by
  unfold nr0; rw [List.length_map]; exact List.length_filter_le _ _
theorem nr1_snoc {E : List (List Int)} {k : Nat} (h : k < E.length) (v : Int) : nr1 (E.take (k + 1)) v = nr1 (E.take k) v ++ (if geti (gets E (k : Nat)) 1 = v then [geti (gets E (k : Nat)) 0] else []) := by
  have e : E[k] = gets E (k : Nat) := by simp [gets, h]
  unfold nr1
  rw [List.take_succ_eq_append_getElem h, List.filter_append, List.map_append, e]
  congr 1
  by_cases hc : geti (gets E (k : Nat)) 1 = v
  · rw [if_pos hc, List.filter_cons_of_pos (by exact decide_eq_true hc)]; rfl
  · rw [if_neg hc, List.filter_cons_of_neg (by simpa using hc)]; rfl
theorem nr0_snoc {E : List (List Int)} {k : Nat} (h : k < E.length) (v : Int) : nr0 (E.take (k + 1)) v = nr0 (E.take k) v ++ (if geti (gets E (k : Nat)) 0 = v then [geti (gets E (k : Nat)) 1] else []) := by
  have e : E[k] = gets E (k : Nat) := by simp [gets, h]
  unfold nr0
  rw [List.take_succ_eq_append_getElem h, List.filter_append, List.map_append, e]
  congr 1
  by_cases hc : geti (gets E (k : Nat)) 0 = v
  · rw [if_pos hc, List.filter_cons_of_pos (by exact decide_eq_true hc)]; rfl
  · rw [if_neg hc, List.filter_cons_of_neg (by simpa using hc)]; rfl

set_option maxHeartbeats 16000000 in
theorem l11Near_c (W : List Int) (E : List (List Int)) (h : GrF W E) (v : Int) : AFn Try.prog 41 [.agg [.ints W, .intss E], .i v] (IsInts 2 (nearL E v)) := by
  have hn := h.n
  have hE := h.e
  have hat := h.at
  (refine AFn.start Try.func41 Try.ntmps41 rfl (by kernel_rfl) fun hk => ?_; simp only [Env.start, enumF, List.length_cons, List.length_nil, Nat.reduceAdd, Nat.reduceSub, List.cons_append, List.nil_append])
  repeat' (first | (apply AOps.nil; try simp only [List.nil_append, List.cons_append, List.set_cons_zero, List.set_cons_succ, List.length_cons, List.length_nil, Nat.reduceAdd, AV.sh, AV.sh1, AV.sh0, AO.sh, List.map_cons, List.map_nil, Nat.zero_add, Nat.add_zero, setAll]) | (apply w_assign; exact rfl; exact rfl) | apply AWp.seq | apply AWp.region | apply AWp.block | ((apply w_boxa); iterate 2 exact rfl) | (apply w_bs0; iterate 1 exact rfl))
  refine AWp.loop (ι := Nat) (fun k => ⟨62, [(1, .i v), (2, .optr 0 0), (5, .own 1), (6, .i k)]⟩) (fun k => [.bx 27 [.ints W, .intss E], .sli 2 (nr1 (E.take k) v)]) (fun k => k ≤ E.length) (fun k => E.length - k) 0 (by omega) ⟨lee rfl (by (repeat (first | exact le_nil | refine le_eq rfl rfl ?_))), by (repeat (first | exact lo_nil | refine lo_eq rfl ?_)), rfl, rfl⟩ ?_
  intro k k0
  have hl := nr1_len (E.take k) v
  rw [List.length_take] at hl
  by_cases hk : k < E.length
  · obtain ⟨a1, a2, a3, a4⟩ := hat k hk
    have hs := nr1_snoc hk v
    have hbl : ((nr1 (E.take k) v).length + [geti (gets E (k : Nat)) 0].length) * 8 ≤ 140737488355328 := by
      simp only [List.length_cons, List.length_nil]; omega
    generalize nr1 (E.take k) v = L at *
    by_cases hc : geti (gets E (k : Nat)) 1 = v
    · rw [if_pos hc] at hs
      repeat' (first | (apply AOps.nil; try simp only [List.nil_append, List.cons_append, List.set_cons_zero, List.set_cons_succ, List.length_cons, List.length_nil, Nat.reduceAdd, AV.sh, AV.sh1, AV.sh0, AO.sh, List.map_cons, List.map_nil, Nat.zero_add, Nat.add_zero, setAll]) | (apply w_move; exact rfl; exact rfl) | (apply w_assign; exact rfl; exact rfl) | apply AWp.seq | apply AWp.region | ((apply AWp.condP; exact rfl) <;> intro h) | apply AWp.block | apply AWp.exit | apply AWp.skip | (apply w_len; exact rfl; exact rfl; first | exact .ints _ | exact .intss _ | exact .sli rfl | exact .sls rfl | exact .slr rfl | exact .orow rfl | exact .nil) | omega | ((first | apply w_lss | apply w_eql | apply w_add | apply w_idx | apply w_ld | apply w_fa); iterate 3 exact rfl) | ((first | apply w_idxs | apply w_lds); iterate 3 exact rfl) | ((apply w_bs1); iterate 2 exact rfl) | (apply w_ldb; iterate 5 exact rfl) | (apply w_app; exact rfl; exact rfl; exact rfl; exact rfl; (exact .sli rfl); rotate_left 1; simp only [Env.mp, List.map_cons, List.map_nil, List.set_cons_zero, List.set_cons_succ, AV.kill, AV.kill1, AO.kill, AV.noRow, AV.noRow1, AO.via, reduceIte, Nat.reduceEqDiff, Nat.reduceLT, Env.up, Nat.zero_ne_one, Nat.one_ne_zero, Nat.reduceAdd, List.cons_append, List.nil_append]; rotate_left 1) | (apply inI_of <;> omega))
      exact ⟨k + 1, by omega, by omega, ⟨lee rfl (by (repeat (first | exact le_nil | refine le_eq rfl rfl ?_))), by (repeat (first | exact lo_nil | refine lo_eq rfl ?_ | refine lo_eq (congrArg (AO.sli _) (hs.symm)) ?_)), rfl, rfl⟩⟩
    · rw [if_neg hc, List.append_nil] at hs
      repeat' (first | (apply AOps.nil; try simp only [List.nil_append, List.cons_append, List.set_cons_zero, List.set_cons_succ, List.length_cons, List.length_nil, Nat.reduceAdd, AV.sh, AV.sh1, AV.sh0, AO.sh, List.map_cons, List.map_nil, Nat.zero_add, Nat.add_zero, setAll]) | (apply w_move; exact rfl; exact rfl) | (apply w_assign; exact rfl; exact rfl) | apply AWp.seq | apply AWp.region | ((apply AWp.condP; exact rfl) <;> intro h) | apply AWp.block | apply AWp.exit | apply AWp.skip | (apply w_len; exact rfl; exact rfl; first | exact .ints _ | exact .intss _ | exact .sli rfl | exact .sls rfl | exact .slr rfl | exact .orow rfl | exact .nil) | omega | ((first | apply w_lss | apply w_eql | apply w_add | apply w_idx | apply w_ld | apply w_fa); iterate 3 exact rfl) | ((first | apply w_idxs | apply w_lds); iterate 3 exact rfl) | (apply w_ldb; iterate 5 exact rfl) | (apply inI_of <;> omega))
      exact ⟨k + 1, by omega, by omega, ⟨lee rfl (by (repeat (first | exact le_nil | refine le_eq rfl rfl ?_))), by (repeat (first | exact lo_nil | refine lo_eq rfl ?_ | refine lo_eq (congrArg (AO.sli _) (hs.symm)) ?_)), rfl, rfl⟩⟩
  have ek : k = E.length := by omega
  subst ek
  rw [List.take_length] at hl ⊢
  repeat' (first | (apply AOps.nil; try simp only [List.nil_append, List.cons_append, List.set_cons_zero, List.set_cons_succ, List.length_cons, List.length_nil, Nat.reduceAdd, AV.sh, AV.sh1, AV.sh0, AO.sh, List.map_cons, List.map_nil, Nat.zero_add, Nat.add_zero, setAll]) | (apply w_move; exact rfl; exact rfl) | (apply w_assign; exact rfl; exact rfl) | apply AWp.seq | apply AWp.region | ((apply AWp.condP; exact rfl) <;> intro h) | apply AWp.block | apply AWp.exit | apply AWp.skip | (apply w_len; exact rfl; exact rfl; first | exact .ints _ | exact .intss _ | exact .sli rfl | exact .sls rfl | exact .slr rfl | exact .orow rfl | exact .nil) | omega | ((first | apply w_lss | apply w_ld | apply w_fa); iterate 3 exact rfl) | (apply w_ldb; iterate 5 exact rfl))
  refine AWp.loop (ι := Nat) (fun k => ⟨62, [(1, .i v), (2, .optr 0 0), (5, .own 1), (7, .i k)]⟩) (fun k => [.bx 27 [.ints W, .intss E], .sli 2 (nr1 E v ++ nr0 (E.take k) v)]) (fun k => k ≤ E.length) (fun k => E.length - k) 0 (by omega) ⟨lee rfl (by (repeat (first | exact le_nil | refine le_eq rfl rfl ?_))), by (repeat (first | exact lo_nil | refine lo_eq rfl ?_ | refine lo_eq (congrArg (AO.sli _) ((List.append_nil _).symm)) ?_)), rfl, rfl⟩ ?_
  intro k k0
  have hl0 := nr0_len (E.take k) v
  rw [List.length_take] at hl0
  by_cases hk : k < E.length
  · obtain ⟨a1, a2, a3, a4⟩ := hat k hk
    have hs : nr1 E v ++ nr0 (E.take (k + 1)) v = (nr1 E v ++ nr0 (E.take k) v) ++ (if geti (gets E (k : Nat)) 0 = v then [geti (gets E (k : Nat)) 1] else []) := by rw [nr0_snoc hk, List.append_assoc]
    have hbl : ((nr1 E v ++ nr0 (E.take k) v).length + [geti (gets E (k : Nat)) 1].length) * 8 ≤ 140737488355328 := by
      simp only [List.length_cons, List.length_nil, List.length_append]; omega
    generalize nr1 E v ++ nr0 (E.take k) v = L at *
    by_cases hc : geti (gets E (k : Nat)) 0 = v
    · rw [if_pos hc] at hs
      repeat' (first | (apply AOps.nil; try simp only [List.nil_append, List.cons_append, List.set_cons_zero, List.set_cons_succ, List.length_cons, List.length_nil, Nat.reduceAdd, AV.sh, AV.sh1, AV.sh0, AO.sh, List.map_cons, List.map_nil, Nat.zero_add, Nat.add_zero, setAll]) | (apply w_move; exact rfl; exact rfl) | (apply w_assign; exact rfl; exact rfl) | apply AWp.seq | apply AWp.region | ((apply AWp.condP; exact rfl) <;> intro h) | apply AWp.block | apply AWp.ret | apply AWp.exit | apply AWp.skip | (apply w_len; exact rfl; exact rfl; first | exact .ints _ | exact .intss _ | exact .sli rfl | exact .sls rfl | exact .slr rfl | exact .orow rfl | exact .nil) | omega | ((first | apply w_lss | apply w_eql | apply w_add | apply w_idx | apply w_ld | apply w_fa); iterate 3 exact rfl) | ((first | apply w_idxs | apply w_lds); iterate 3 exact rfl) | ((apply w_bs1); iterate 2 exact rfl) | (apply w_ldb; iterate 5 exact rfl) | (apply w_app; exact rfl; exact rfl; exact rfl; exact rfl; (exact .sli rfl); rotate_left 1; simp only [Env.mp, List.map_cons, List.map_nil, List.set_cons_zero, List.set_cons_succ, AV.kill, AV.kill1, AO.kill, AV.noRow, AV.noRow1, AO.via, reduceIte, Nat.reduceEqDiff, Nat.reduceLT, Env.up, Nat.zero_ne_one, Nat.one_ne_zero, Nat.reduceAdd, List.cons_append, List.nil_append]; rotate_left 1) | (apply inI_of <;> omega))
      exact ⟨k + 1, by omega, by omega, ⟨lee rfl (by (repeat (first | exact le_nil | refine le_eq rfl rfl ?_))), by (repeat (first | exact lo_nil | refine lo_eq rfl ?_ | refine lo_eq (congrArg (AO.sli _) (hs.symm)) ?_)), rfl, rfl⟩⟩
    · rw [if_neg hc, List.append_nil] at hs
      repeat' (first | (apply AOps.nil; try simp only [List.nil_append, List.cons_append, List.set_cons_zero, List.set_cons_succ, List.length_cons, List.length_nil, Nat.reduceAdd, AV.sh, AV.sh1, AV.sh0, AO.sh, List.map_cons, List.map_nil, Nat.zero_add, Nat.add_zero, setAll]) | (apply w_move; exact rfl; exact rfl) | (apply w_assign; exact rfl; exact rfl) | apply AWp.seq | apply AWp.region | ((apply AWp.condP; exact rfl) <;> intro h) | apply AWp.block | apply AWp.ret | apply AWp.exit | apply AWp.skip | (apply w_len; exact rfl; exact rfl; first | exact .ints _ | exact .intss _ | exact .sli rfl | exact .sls rfl | exact .slr rfl | exact .orow rfl | exact .nil) | omega | ((first | apply w_lss | apply w_eql | apply w_add | apply w_idx | apply w_ld | apply w_fa); iterate 3 exact rfl) | ((first | apply w_idxs | apply w_lds); iterate 3 exact rfl) | (apply w_ldb; iterate 5 exact rfl) | (apply inI_of <;> omega))
      exact ⟨k + 1, by omega, by omega, ⟨lee rfl (by (repeat (first | exact le_nil | refine le_eq rfl rfl ?_))), by (repeat (first | exact lo_nil | refine lo_eq rfl ?_ | refine lo_eq (congrArg (AO.sli _) (hs.symm)) ?_)), rfl, rfl⟩⟩
  have ek : k = E.length := by omega
  subst ek
  rw [List.take_length, ← near_cut]
  repeat' (first | (apply AOps.nil; try simp only [List.nil_append, List.cons_append, List.set_cons_zero, List.set_cons_succ, List.length_cons, List.length_nil, Nat.reduceAdd, AV.sh, AV.sh1, AV.sh0, AO.sh, List.map_cons, List.map_nil, Nat.zero_add, Nat.add_zero, setAll]) | (apply w_move; exact rfl; exact rfl) | (apply w_assign; exact rfl; exact rfl) | apply AWp.seq | apply AWp.region | ((apply AWp.condP; exact rfl) <;> intro h) | apply AWp.block | apply AWp.ret | apply AWp.exit | apply AWp.skip | (apply w_len; exact rfl; exact rfl; first | exact .ints _ | exact .intss _ | exact .sli rfl | exact .sls rfl | exact .slr rfl | exact .orow rfl | exact .nil) | omega | ((first | apply w_lss | apply w_ld | apply w_fa); iterate 3 exact rfl) | (apply w_ldb; iterate 5 exact rfl))
  exact ⟨_, _, _, .v1 Try.results41 rfl, .sli rfl, rfl, rfl⟩

set_option maxHeartbeats 16000000 in
theorem l11Order_c (W : List Int) (E : List (List Int)) (h : GrF W E) (r : Int) (hr : 0 ≤ r ∧ r < W.length) :
    AFnC Try.prog 40 [.agg [.ints W, .intss E], .i r] [] (fun v os => v = .tup [.own 0, .own 1] ∧ ∃ o p, Tr W.length (nearL E) r o p ∧ os = [.sli 2 o, .sli 2 p]) := by
  have hn := h.n
  have hF := h.fo.fst
  have hstart := Inv.start (near := nearL E) hr
  have hnear := l11Near_c W E h
  (refine AFnC.start Try.func40 Try.ntmps40 rfl (by kernel_rfl) fun K => ?_; simp only [Env.start, enumF, List.map_cons, List.map_nil, AV.sh, List.length_cons, List.length_nil, Nat.reduceAdd, Nat.reduceSub, List.cons_append, List.nil_append])
  repeat' (first | (apply AOps.nil; try simp only [List.nil_append, List.cons_append, List.set_cons_zero, List.set_cons_succ, List.length_cons, List.length_nil, Nat.reduceAdd, AV.sh, AV.sh1, AV.sh0, AO.sh, List.map_cons, List.map_nil, Nat.zero_add, Nat.add_zero, setAll]) | (apply w_assign; exact rfl; exact rfl) | apply AWp.seq | apply AWp.region | apply AWp.block | ((apply w_boxa); iterate 2 exact rfl) | (apply w_bs0; iterate 1 exact rfl))
  refine AWp.loop (ι := Nat) (fun i => ⟨74, [(1, .i r), (2, .optr 1 0), (6, .own 2), (7, .i i)]⟩) (fun i => [.keep 1 K, .bx 27 [.ints W, .intss E], .sli 2 (List.replicate i (-1))]) (fun i => i ≤ W.length) (fun i => W.length - i) 0 (by omega) ⟨lee rfl (by (repeat (first | exact le_nil | refine le_eq rfl rfl ?_))), by (repeat (first | exact lo_nil | refine lo_eq rfl ?_)), rfl, rfl⟩ ?_
  intro i i0
  have hrl : (List.replicate i (-1 : Int)).length = i := List.length_replicate
  have hrs : List.replicate (i + 1) (-1 : Int) = List.replicate i (-1) ++ [-1] := List.replicate_succ'
  by_cases hi : i < W.length
  · have hbl : ((List.replicate i (-1 : Int)).length + [(-1 : Int)].length) * 8 ≤ 140737488355328 := by
      simp only [List.length_cons, List.length_nil]; omega
    generalize List.replicate i (-1 : Int) = L at *
    repeat' (first | (apply AOps.nil; try simp only [List.nil_append, List.cons_append, List.set_cons_zero, List.set_cons_succ, List.length_cons, List.length_nil, Nat.reduceAdd, AV.sh, AV.sh1, AV.sh0, AO.sh, List.map_cons, List.map_nil, Nat.zero_add, Nat.add_zero, setAll]) | (apply w_move; exact rfl; exact rfl) | (apply w_assign; exact rfl; exact rfl) | apply AWp.seq | apply AWp.region | ((apply AWp.condP; exact rfl) <;> intro h) | apply AWp.block | apply AWp.exit | apply AWp.skip | (apply w_len; exact rfl; exact rfl; first | exact .ints _ | exact .intss _ | exact .sli rfl | exact .sls rfl | exact .slr rfl | exact .orow rfl | exact .nil) | omega | ((first | apply w_lss | apply w_add | apply w_ld | apply w_fa); iterate 3 exact rfl) | ((apply w_bs1); iterate 2 exact rfl) | (apply w_ldb; iterate 5 exact rfl) | (apply w_app; exact rfl; exact rfl; exact rfl; exact rfl; (exact .sli rfl); rotate_left 1; simp only [Env.mp, List.map_cons, List.map_nil, List.set_cons_zero, List.set_cons_succ, AV.kill, AV.kill1, AO.kill, AV.noRow, AV.noRow1, AO.via, reduceIte, Nat.reduceEqDiff, Nat.reduceLT, Env.up, Nat.zero_ne_one, Nat.one_ne_zero, Nat.reduceAdd, List.cons_append, List.nil_append]; rotate_left 1) | (apply inI_of <;> omega))
    exact ⟨i + 1, by omega, by omega, ⟨lee rfl (by (repeat (first | exact le_nil | refine le_eq rfl rfl ?_))), by (repeat (first | exact lo_nil | refine lo_eq rfl ?_ | refine lo_eq (congrArg (AO.sli _) (hrs.symm)) ?_)), rfl, rfl⟩⟩
  have ei : i = W.length := by omega
  subst ei
  repeat' (first | (apply AOps.nil; try simp only [List.nil_append, List.cons_append, List.set_cons_zero, List.set_cons_succ, List.length_cons, List.length_nil, Nat.reduceAdd, AV.sh, AV.sh1, AV.sh0, AO.sh, List.map_cons, List.map_nil, Nat.zero_add, Nat.add_zero, setAll]) | (apply w_move; exact rfl; exact rfl) | (apply w_assign; exact rfl; exact rfl) | apply AWp.seq | apply AWp.region | ((apply AWp.condP; exact rfl) <;> intro h) | apply AWp.block | apply AWp.exit | apply AWp.skip | (apply w_len; exact rfl; exact rfl; first | exact .ints _ | exact .intss _ | exact .sli rfl | exact .sls rfl | exact .slr rfl | exact .orow rfl | exact .nil) | omega | ((first | apply w_lss | apply w_ld | apply w_fa); iterate 3 exact rfl) | ((apply w_bs1); iterate 2 exact rfl) | (apply w_ldb; iterate 5 exact rfl) | (apply inI_of <;> omega))
  refine AWp.loop (ι := Nat × List Int × List Int) (fun x => ⟨74, [(2, .optr 1 0), (6, .own 2), (8, .own 3), (9, .i x.1)]⟩) (fun x => [.keep 1 K, .bx 27 [.ints W, .intss E], .sli 2 x.2.2, .sli 2 x.2.1]) (fun x => Inv W.length (nearL E) r x.1 x.2.1 x.2.2) (fun x => W.length - x.1) (0, [r], List.replicate W.length (-1)) hstart ⟨lee rfl (by (repeat (first | exact le_nil | refine le_eq rfl rfl ?_))), by (repeat (first | exact lo_nil | refine lo_eq rfl ?_)), rfl, rfl⟩ ?_
  rintro ⟨i, o, p⟩ hI
  have hob := hI.bd
  have hle := hI.le
  simp only at hI hob hle
  have hpl := hI.len
  by_cases hi2 : i < o.length
  · obtain ⟨v, ev⟩ : ∃ v, v = geti o (((i : Nat) : Int).toNat : Nat) := ⟨_, rfl⟩
    have ev2 : o[i]? = some v := by
      rw [ev, Int.toNat_natCast]; simp [geti, List.getD_eq_getElem?_getD, List.getElem?_eq_getElem hi2]
    have hvm : v ∈ o := List.mem_of_getElem? ev2
    have hvr := hI.rng v hvm
    have hnv := hnear v
    have hnl := fun u => hF.bnd v u
    have hnd := hF.nd v
    have hin := hI.into ev2
    have hlen : (nearL E v).length ≤ W.length := nd_len hnd (fun x hx => (hF.bnd v x hx).1)
    repeat' (first | (apply AOps.nil; try simp only [List.nil_append, List.cons_append, List.set_cons_zero, List.set_cons_succ, List.length_cons, List.length_nil, Nat.reduceAdd, AV.sh, AV.sh1, AV.sh0, AO.sh, List.map_cons, List.map_nil, Nat.zero_add, Nat.add_zero, setAll]) | (apply w_move; exact rfl; exact rfl) | (apply w_assign; exact rfl; exact rfl) | apply AWp.seq | apply AWp.region | ((apply AWp.condP; exact rfl) <;> intro h) | apply AWp.block | apply AWp.ret | apply AWp.exit | apply AWp.skip | (apply w_len; exact rfl; exact rfl; first | exact .ints _ | exact .intss _ | exact .sli rfl | exact .sls rfl | exact .slr rfl | exact .orow rfl | exact .nil) | omega | ((apply w_lss); iterate 3 exact rfl))
    refine AWp.regionG [] (by kernel_rfl) (envC := ⟨74, [(2, .optr 1 0), (6, .own 2), (8, .own 3), (9, .i i), (10, .own 4)]⟩) (osC := [.keep 1 K, .bx 27 [.ints W, .intss E], .sli 2 p, .sli 2 o, .sli 2 (nearL E v)]) rfl (by first | exact rfl | (simp [AO.lim, AV.lim, bL_lim]; done)) ?_ ?_
    · rw [ev] at hnv ⊢
      repeat' (first | (apply AOps.nil; try simp only [List.nil_append, List.cons_append, List.set_cons_zero, List.set_cons_succ, List.length_cons, List.length_nil, Nat.reduceAdd, AV.sh, AV.sh1, AV.sh0, AO.sh, List.map_cons, List.map_nil, Nat.zero_add, Nat.add_zero, setAll]) | (apply w_move; exact rfl; exact rfl) | (apply w_assign; exact rfl; exact rfl) | apply AllOfG.nil | (apply AllOfG.consS; exact rfl; exact rfl) | (apply AAnyG.takeW; exact rfl; exact rfl; kernel_rfl; kernel_rfl) | (apply AAnyG.takeL; exact rfl; exact rfl; kernel_rfl) | (apply AAnyG.all; exact rfl) | (apply AAnyG.done; exact rfl) | (apply w_callm (hnv); (focus ((repeat (first | exact im_nil | refine im_cons rfl (im_agg2 (.ints _) (.intss _)) ?_ | refine im_cons rfl (.val _) ?_)); done)); rintro r os0 ⟨rfl, rfl⟩; try simp only [List.nil_append, List.cons_append, List.set_cons_zero, List.set_cons_succ, List.length_cons, List.length_nil, Nat.reduceAdd, AV.sh, AV.sh1, AV.sh0, AO.sh, List.map_cons, List.map_nil, Nat.zero_add, Nat.add_zero, setAll]) | omega | (apply w_idxo; exact rfl; exact rfl; (exact .sli rfl); exact rfl) | (apply w_ldo; iterate 4 exact rfl) | (apply w_ldst; iterate 5 exact rfl))
      all_goals (apply Or.inl; refine ⟨lee rfl ?_, ?_, rfl, (by first | exact rfl | (simp [AO.lim, AV.lim, bL_lim]; done))⟩; (focus ((repeat (first | exact le_nil | refine le_eq rfl rfl ?_)); done)); (focus ((repeat (first | exact lo_nil | refine lo_eq rfl ?_)); done)))
    clear hnv
    repeat' (first | (apply AOps.nil; try simp only [List.nil_append, List.cons_append, List.set_cons_zero, List.set_cons_succ, List.length_cons, List.length_nil, Nat.reduceAdd, AV.sh, AV.sh1, AV.sh0, AO.sh, List.map_cons, List.map_nil, Nat.zero_add, Nat.add_zero, setAll]) | (apply w_assign; exact rfl; exact rfl) | apply AWp.seq | apply AWp.region | apply AWp.block)
    refine AWp.loop (ι := Nat × List Int × List Int) (fun x => ⟨74, [(2, .optr 1 0), (6, .own 2), (8, .own 3), (9, .i i), (10, .own 4), (11, .i x.1)]⟩) (fun x => [.keep 1 K, .bx 27 [.ints W, .intss E], .sli 2 x.2.2, .sli 2 x.2.1, .sli 2 (nearL E v)]) (fun x => x.1 ≤ (nearL E v).length ∧ InvK W.length (nearL E) r i v ((nearL E v).take x.1) x.2.1 x.2.2) (fun x => (nearL E v).length - x.1) (0, o, p) ⟨by simp only; omega, hin⟩ ⟨lee rfl (by (repeat (first | exact le_nil | refine le_eq rfl rfl ?_))), by (repeat (first | exact lo_nil | refine lo_eq rfl ?_)), rfl, (by first | exact rfl | (simp [AO.lim, AV.lim, bL_lim]; done))⟩ ?_
    rintro ⟨k, o, p⟩ ⟨k0, hK⟩
    simp only at k0 hK
    have hob2 := hK.bd
    have hpl2 := hK.len
    have hat := hK.at_
    have hio : i < o.length := (List.getElem?_eq_some_iff.1 hat).1
    have hgv : geti o (((i : Nat) : Int).toNat : Nat) = v := by
      rw [Int.toNat_natCast]; simp [geti, List.getD_eq_getElem?_getD, hat]
    by_cases hk : k < (nearL E v).length
    · obtain ⟨u, eu⟩ : ∃ u, u = geti (nearL E v) (((k : Nat) : Int).toNat : Nat) := ⟨_, rfl⟩
      have eu2 : (nearL E v)[k]? = some u := by
        rw [eu, Int.toNat_natCast]; simp [geti, List.getD_eq_getElem?_getD, List.getElem?_eq_getElem hk]
      have hum : u ∈ nearL E v := List.mem_of_getElem? eu2
      obtain ⟨u0, _, _⟩ := hnl u hum
      have et : (nearL E v).take (k + 1) = (nearL E v).take k ++ [u] := by rw [List.take_add_one, eu2]; rfl
      have hdn : ∀ x ∈ (nearL E v).take k, x ∈ nearL E v := fun x hx => List.mem_of_mem_take hx
      have hud : u ∉ (nearL E v).take k := fun hx => by
        obtain ⟨j, hj, ej⟩ := List.mem_take_iff_getElem.1 hx
        have e1 : (nearL E v)[j]? = some u := by rw [List.getElem?_eq_getElem (by omega), ej]
        have := nd_get hnd e1 eu2
        omega
      have hskip := fun hu => hK.skip (u := u) hu
      have hpush := fun hu => hK.push hF hdn hum hud hu
      rw [← et] at hskip hpush
      generalize nearL E v = nv at *
      by_cases hup : u = geti p v
      · have hq := hskip hup
        have hup' : geti nv (((k : Nat) : Int).toNat : Nat) = geti p ((geti o (((i : Nat) : Int).toNat : Nat)).toNat : Nat) := by rw [hgv, Int.toNat_of_nonneg hvr.1, ← eu]; exact hup
        repeat' (first | (apply AOps.nil; try simp only [List.nil_append, List.cons_append, List.set_cons_zero, List.set_cons_succ, List.length_cons, List.length_nil, Nat.reduceAdd, AV.sh, AV.sh1, AV.sh0, AO.sh, List.map_cons, List.map_nil, Nat.zero_add, Nat.add_zero, setAll]) | (apply w_move; exact rfl; exact rfl) | apply AWp.seq | apply AWp.region | ((apply AWp.condP; exact rfl) <;> intro h) | apply AWp.block | apply AWp.exit | apply AWp.skip | (apply w_len; exact rfl; exact rfl; first | exact .ints _ | exact .intss _ | exact .sli rfl | exact .sls rfl | exact .slr rfl | exact .orow rfl | exact .nil) | omega | ((apply w_lss); iterate 3 exact rfl))
        refine AWp.regionQ (by kernel_rfl) (by kernel_rfl) ?_
        repeat' (first | (apply AOps.nil; try simp only [List.nil_append, List.cons_append, List.set_cons_zero, List.set_cons_succ, List.length_cons, List.length_nil, Nat.reduceAdd, AV.sh, AV.sh1, AV.sh0, AO.sh, List.map_cons, List.map_nil, Nat.zero_add, Nat.add_zero, setAll]) | (apply w_move; exact rfl; exact rfl) | (apply w_assign; exact rfl; exact rfl) | apply AWp.seq | apply AWp.region | ((apply AWp.condP; exact rfl) <;> intro h) | apply AWp.skip | omega | ((first | apply w_neq | apply w_add | apply w_idx | apply w_ld); iterate 3 exact rfl) | (apply w_idxo; exact rfl; exact rfl; (exact .sli rfl); exact rfl) | (apply w_ldo; iterate 4 exact rfl) | (apply inI_of <;> omega))
        all_goals try (exfalso; first | exact absurd hup' (by assumption) | exact absurd (by assumption) hup')
        exact ⟨(k + 1, o, p), ⟨by simp only; omega, hq⟩, by simp only; omega, ⟨lee rfl (by (repeat (first | exact le_nil | refine le_eq rfl rfl ?_))), by (repeat (first | exact lo_nil | refine lo_eq rfl ?_)), rfl, (by first | exact rfl | (simp [AO.lim, AV.lim, bL_lim]; done))⟩⟩
      · have hq := hpush hup
        have hup' : ¬ geti nv (((k : Nat) : Int).toNat : Nat) = geti p ((geti o (((i : Nat) : Int).toNat : Nat)).toNat : Nat) := by rw [hgv, Int.toNat_of_nonneg hvr.1, ← eu]; exact hup
        have hbl : (o.length + [u].length) * 8 ≤ 140737488355328 := by
          simp only [List.length_cons, List.length_nil]; omega
        repeat' (first | (apply AOps.nil; try simp only [List.nil_append, List.cons_append, List.set_cons_zero, List.set_cons_succ, List.length_cons, List.length_nil, Nat.reduceAdd, AV.sh, AV.sh1, AV.sh0, AO.sh, List.map_cons, List.map_nil, Nat.zero_add, Nat.add_zero, setAll]) | (apply w_move; exact rfl; exact rfl) | apply AWp.seq | apply AWp.region | ((apply AWp.condP; exact rfl) <;> intro h) | apply AWp.block | apply AWp.exit | apply AWp.skip | (apply w_len; exact rfl; exact rfl; first | exact .ints _ | exact .intss _ | exact .sli rfl | exact .sls rfl | exact .slr rfl | exact .orow rfl | exact .nil) | omega | ((apply w_lss); iterate 3 exact rfl))
        refine AWp.regionQ (by kernel_rfl) (by kernel_rfl) ?_
        repeat' (first | (apply AOps.nil; try simp only [List.nil_append, List.cons_append, List.set_cons_zero, List.set_cons_succ, List.length_cons, List.length_nil, Nat.reduceAdd, AV.sh, AV.sh1, AV.sh0, AO.sh, List.map_cons, List.map_nil, Nat.zero_add, Nat.add_zero, setAll]) | (apply w_move; exact rfl; exact rfl) | apply AWp.seq | apply AWp.region | ((apply AWp.condP; exact rfl) <;> intro h) | apply AWp.skip | omega | ((first | apply w_neq | apply w_idx | apply w_ld); iterate 3 exact rfl) | (apply w_idxo; exact rfl; exact rfl; (exact .sli rfl); exact rfl) | (apply w_ldo; iterate 4 exact rfl))
        all_goals try (exfalso; first | exact absurd hup' (by assumption) | exact absurd (by assumption) hup')
        refine AWp.regionG [] (by kernel_rfl) (envC := ⟨74, [(2, .optr 1 0), (6, .own 2), (8, .own 3), (9, .i i), (10, .own 4), (11, .i k)]⟩) (osC := [.keep 1 K, .bx 27 [.ints W, .intss E], .sli 2 (p.set u.toNat v), .sli 2 o, .sli 2 nv]) rfl (by first | exact rfl | (simp [AO.lim, AV.lim, bL_lim]; done)) ?_ ?_
        · rw [eu] at u0 ⊢
          rw [← hgv] at hvr ⊢
          repeat' (first | (apply AOps.nil; try simp only [List.nil_append, List.cons_append, List.set_cons_zero, List.set_cons_succ, List.length_cons, List.length_nil, Nat.reduceAdd, AV.sh, AV.sh1, AV.sh0, AO.sh, List.map_cons, List.map_nil, Nat.zero_add, Nat.add_zero, setAll]) | (apply w_move; exact rfl; exact rfl) | apply AllOfG.nil | (apply AllOfG.consS; exact rfl; exact rfl) | (apply AAnyG.takeW; exact rfl; exact rfl; kernel_rfl; kernel_rfl) | (apply AAnyG.takeL; exact rfl; exact rfl; kernel_rfl) | (apply AAnyG.all; exact rfl) | (apply AAnyG.done; exact rfl) | omega | (apply w_idxo; exact rfl; exact rfl; (exact .sli rfl); exact rfl) | (apply w_ldo; iterate 4 exact rfl) | (apply w_sti; exact rfl; exact rfl; rotate_left 1; exact rfl; rotate_left 2) | (apply inI_of <;> omega))
          all_goals (apply Or.inl; refine ⟨lee rfl ?_, ?_, rfl, (by first | exact rfl | (simp [AO.lim, AV.lim, bL_lim]; done))⟩; (focus ((repeat (first | exact le_nil | refine le_eq rfl rfl ?_)); done)); (focus ((repeat (first | exact lo_nil | refine lo_eq rfl ?_)); done)))
        generalize p.set u.toNat v = p' at *
        repeat' (first | (apply AOps.nil; try simp only [List.nil_append, List.cons_append, List.set_cons_zero, List.set_cons_succ, List.length_cons, List.length_nil, Nat.reduceAdd, AV.sh, AV.sh1, AV.sh0, AO.sh, List.map_cons, List.map_nil, Nat.zero_add, Nat.add_zero, setAll]) | (apply w_move; exact rfl; exact rfl) | (apply w_assign; exact rfl; exact rfl) | apply AWp.region | omega | ((first | apply w_add | apply w_idx | apply w_ld); iterate 3 exact rfl) | ((apply w_bs1); iterate 2 exact rfl) | (apply w_idxo; exact rfl; exact rfl; (exact .sli rfl); exact rfl) | (apply w_ldo; iterate 4 exact rfl) | (apply w_app; exact rfl; exact rfl; exact rfl; exact rfl; (exact .sli rfl); rotate_left 1; simp only [Env.mp, List.map_cons, List.map_nil, List.set_cons_zero, List.set_cons_succ, AV.kill, AV.kill1, AO.kill, AV.noRow, AV.noRow1, AO.via, reduceIte, Nat.reduceEqDiff, Nat.reduceLT, Env.up, Nat.zero_ne_one, Nat.one_ne_zero, Nat.reduceAdd, List.cons_append, List.nil_append]; rotate_left 1) | (apply inI_of <;> omega))
        rw [eu] at hbl u0
        repeat' (apply AOps.nil; try simp only [List.nil_append, List.cons_append, List.set_cons_zero, List.set_cons_succ, List.length_cons, List.length_nil, Nat.reduceAdd, AV.sh, AV.sh1, AV.sh0, AO.sh, List.map_cons, List.map_nil, Nat.zero_add, Nat.add_zero, setAll])
        exact ⟨(k + 1, o ++ [u], p'), ⟨by simp only; omega, hq⟩, by simp only; omega, by rw [eu]; exact ⟨lee rfl (by (repeat (first | exact le_nil | refine le_eq rfl rfl ?_))), by (repeat (first | exact lo_nil | refine lo_eq rfl ?_)), rfl, (by first | exact rfl | (simp [AO.lim, AV.lim, bL_lim]; done))⟩⟩
    · have ek : k = (nearL E v).length := by omega
      subst ek
      rw [List.take_length] at hK
      have hout := hK.out
      repeat' (first | (apply AOps.nil; try simp only [List.nil_append, List.cons_append, List.set_cons_zero, List.set_cons_succ, List.length_cons, List.length_nil, Nat.reduceAdd, AV.sh, AV.sh1, AV.sh0, AO.sh, List.map_cons, List.map_nil, Nat.zero_add, Nat.add_zero, setAll]) | (apply w_move; exact rfl; exact rfl) | (apply w_assign; exact rfl; exact rfl) | apply AWp.seq | apply AWp.region | ((apply AWp.condP; exact rfl) <;> intro h) | apply AWp.block | apply AWp.exit | apply AWp.skip | (apply w_len; exact rfl; exact rfl; first | exact .ints _ | exact .intss _ | exact .sli rfl | exact .sls rfl | exact .slr rfl | exact .orow rfl | exact .nil) | omega | ((first | apply w_lss | apply w_add); iterate 3 exact rfl) | (apply inI_of <;> omega))
      exact ⟨(i + 1, o, p), hout, by simp only; omega, ⟨lee rfl (by (repeat (first | exact le_nil | refine le_eq rfl rfl ?_))), by (repeat (first | exact lo_nil | refine lo_eq rfl ?_)), rfl, (by first | exact rfl | (simp [AO.lim, AV.lim, bL_lim]; done))⟩⟩
  · have ei : i = o.length := by omega
    subst ei
    repeat' (first | (apply AOps.nil; try simp only [List.nil_append, List.cons_append, List.set_cons_zero, List.set_cons_succ, List.length_cons, List.length_nil, Nat.reduceAdd, AV.sh, AV.sh1, AV.sh0, AO.sh, List.map_cons, List.map_nil, Nat.zero_add, Nat.add_zero, setAll]) | (apply w_move; exact rfl; exact rfl) | (apply w_assign; exact rfl; exact rfl) | apply AWp.seq | apply AWp.region | ((apply AWp.condP; exact rfl) <;> intro h) | apply AWp.block | apply AWp.ret | apply AWp.exit | apply AWp.skip | (apply w_len; exact rfl; exact rfl; first | exact .ints _ | exact .intss _ | exact .sli rfl | exact .sls rfl | exact .slr rfl | exact .orow rfl | exact .nil) | omega | ((apply w_lss); iterate 3 exact rfl))
    refine ⟨⟨74, [(4, .own 1), (5, .own 2)]⟩, [.sli 2 o, .sli 2 p], .tup [.own 0, .own 1], Turns.or ?_, ResIs.a2 rfl rfl rfl, all_cons' trivial (all_cons' trivial all_nil'), ⟨rfl, o, p, hI, rfl⟩, all_cons' trivial (all_cons' trivial all_nil')⟩
    (apply Or.inr; refine ⟨[0, 3, 2], ⟨by decide, fun x hx => Nat.lt_of_lt_of_le ((by decide : ∀ x ∈ ([0, 3, 2] : List Nat), x < 4) x hx) (Nat.le_of_ble_eq_true rfl)⟩, lee rfl ?_, ?_, rfl, (by first | exact rfl | (simp [AO.lim, AV.lim, bL_lim]; done))⟩; (focus ((repeat (first | exact le_nil | refine le_eq rfl rfl ?_)); done)); (focus ((repeat (first | exact lo_nil | refine lo_eq rfl ?_)); done)))
end Go.Proofs.Ythjkpmjdkcainaa
/-
  Numbers of components, walked: the reference. Condition: a forest of at most 40 vertices.
-/
namespace Go.Proofs.Ythjkpmjdkcainaa
open Go Go.RowKit
attribute [local irreducible] AWp AOps ResIs Ret1 QOp LOp COp AFnV AFn Imms LeE LeO
set_option maxHeartbeats 1000000
set_option linter.unusedSimpArgs false
set_option linter.unusedVariables false

theorem l01Index_at (L : List Int) (p : Int) (j0 : Nat) (hl : L.length ≤ 1000000) (h0 : j0 < L.length) (h1 : geti L (j0 : Nat) = p) (h2 : ∀ j : Nat, j < j0 → geti L (j : Nat) ≠ p) : AFnV Try.prog 39 [.ints L, .i p] (.int .i64 j0) := by
  (refine AFnV.start Try.func39 Try.ntmps39 rfl (by kernel_rfl) fun hk => ?_; simp only [Env.start, enumF, List.length_cons, List.length_nil, Nat.reduceAdd, Nat.reduceSub, List.cons_append, List.nil_append])
  repeat' (first | (apply AOps.nil; try simp only [List.nil_append, List.cons_append, List.set_cons_zero, List.set_cons_succ, List.length_cons, List.length_nil, Nat.reduceAdd, AV.sh, AV.sh1, AV.sh0, AO.sh, List.map_cons, List.map_nil, Nat.zero_add, Nat.add_zero, setAll]) | (apply w_assign; exact rfl; exact rfl) | apply AWp.seq | apply AWp.region | apply AWp.block)
  refine AWp.loop (ι := Nat) (fun i => ⟨19, [(0, .ints L), (1, .i p), (5, .i i)]⟩) (fun _ => []) (fun i => i ≤ j0) (fun i => j0 - i) 0 (by omega) ⟨lee rfl (by (repeat (first | exact le_nil | refine le_eq rfl rfl ?_))), by (repeat (exact lo_nil)), rfl, rfl⟩ ?_
  intro i i0
  by_cases e : i = j0
  · subst e
    repeat' (first | (apply AOps.nil; try simp only [List.nil_append, List.cons_append, List.set_cons_zero, List.set_cons_succ, List.length_cons, List.length_nil, Nat.reduceAdd, AV.sh, AV.sh1, AV.sh0, AO.sh, List.map_cons, List.map_nil, Nat.zero_add, Nat.add_zero, setAll]) | (apply w_move; exact rfl; exact rfl) | (apply w_assign; exact rfl; exact rfl) | apply AWp.seq | apply AWp.region | ((apply AWp.condP; exact rfl) <;> intro h) | apply AWp.block | apply AWp.ret | apply AWp.exit | apply AWp.skip | (apply w_len; exact rfl; exact rfl; first | exact .ints _ | exact .intss _ | exact .sli rfl | exact .sls rfl | exact .slr rfl | exact .orow rfl | exact .nil) | omega | ((first | apply w_lss | apply w_eql | apply w_idx | apply w_ld); iterate 3 exact rfl))
    exact .int Try.results39 rfl rfl
  · have := h2 i (by omega)
    repeat' (first | (apply AOps.nil; try simp only [List.nil_append, List.cons_append, List.set_cons_zero, List.set_cons_succ, List.length_cons, List.length_nil, Nat.reduceAdd, AV.sh, AV.sh1, AV.sh0, AO.sh, List.map_cons, List.map_nil, Nat.zero_add, Nat.add_zero, setAll]) | (apply w_move; exact rfl; exact rfl) | (apply w_assign; exact rfl; exact rfl) | apply AWp.seq | apply AWp.region | ((apply AWp.condP; exact rfl) <;> intro h) | apply AWp.block | apply AWp.ret | apply AWp.exit | apply AWp.skip | (apply w_len; exact rfl; exact rfl; first | exact .ints _ | exact .intss _ | exact .sli rfl | exact .sls rfl | exact .slr rfl | exact .orow rfl | exact .nil) | omega | ((first | apply w_lss | apply w_eql | apply w_add | apply w_idx | apply w_ld); iterate 3 exact rfl) | (apply inI_of <;> omega))
    exact ⟨i + 1, by omega, by omega, ⟨lee rfl (by (repeat (first | exact le_nil | refine le_eq rfl rfl ?_))), by (repeat (exact lo_nil)), rfl, rfl⟩⟩

set_option maxHeartbeats 16000000 in
theorem l11Labels_c (W : List Int) (E : List (List Int)) (h : GrF W E) : AFn Try.prog 38 [.agg [.ints W, .intss E]] (IsInts 2 (labS W.length (nearL E) W.length)) := by
  have hn := h.n
  have hF := h.fo.fst
  have hord := l11Order_c W E h
  have hstart := LbI.start (near := nearL E) (n := W.length) (by omega)
  (refine AFn.start Try.func38 Try.ntmps38 rfl (by kernel_rfl) fun hk => ?_; simp only [Env.start, enumF, List.length_cons, List.length_nil, Nat.reduceAdd, Nat.reduceSub, List.cons_append, List.nil_append])
  repeat' (first | (apply AOps.nil; try simp only [List.nil_append, List.cons_append, List.set_cons_zero, List.set_cons_succ, List.length_cons, List.length_nil, Nat.reduceAdd, AV.sh, AV.sh1, AV.sh0, AO.sh, List.map_cons, List.map_nil, Nat.zero_add, Nat.add_zero, setAll]) | (apply w_assign; exact rfl; exact rfl) | apply AWp.seq | apply AWp.region | apply AWp.block | ((apply w_boxa); iterate 2 exact rfl) | (apply w_bs0; iterate 1 exact rfl))
  refine AWp.loop (ι := Nat) (fun i => ⟨54, [(1, .optr 0 0), (3, .own 1), (4, .i 0), (5, .i i)]⟩) (fun i => [.bx 27 [.ints W, .intss E], .sli 2 (List.replicate i (-1))]) (fun i => i ≤ W.length) (fun i => W.length - i) 0 (by omega) ⟨lee rfl (by (repeat (first | exact le_nil | refine le_eq rfl rfl ?_))), by (repeat (first | exact lo_nil | refine lo_eq rfl ?_)), rfl, rfl⟩ ?_
  intro i i0
  have hrl : (List.replicate i (-1 : Int)).length = i := List.length_replicate
  have hrs : List.replicate (i + 1) (-1 : Int) = List.replicate i (-1) ++ [-1] := List.replicate_succ'
  by_cases hi : i < W.length
  · have hbl : ((List.replicate i (-1 : Int)).length + [(-1 : Int)].length) * 8 ≤ 140737488355328 := by
      simp only [List.length_cons, List.length_nil]; omega
    generalize List.replicate i (-1 : Int) = L at *
    repeat' (first | (apply AOps.nil; try simp only [List.nil_append, List.cons_append, List.set_cons_zero, List.set_cons_succ, List.length_cons, List.length_nil, Nat.reduceAdd, AV.sh, AV.sh1, AV.sh0, AO.sh, List.map_cons, List.map_nil, Nat.zero_add, Nat.add_zero, setAll]) | (apply w_move; exact rfl; exact rfl) | (apply w_assign; exact rfl; exact rfl) | apply AWp.seq | apply AWp.region | ((apply AWp.condP; exact rfl) <;> intro h) | apply AWp.block | apply AWp.exit | apply AWp.skip | (apply w_len; exact rfl; exact rfl; first | exact .ints _ | exact .intss _ | exact .sli rfl | exact .sls rfl | exact .slr rfl | exact .orow rfl | exact .nil) | omega | ((first | apply w_lss | apply w_add | apply w_ld | apply w_fa); iterate 3 exact rfl) | ((apply w_bs1); iterate 2 exact rfl) | (apply w_ldb; iterate 5 exact rfl) | (apply w_app; exact rfl; exact rfl; exact rfl; exact rfl; (exact .sli rfl); rotate_left 1; simp only [Env.mp, List.map_cons, List.map_nil, List.set_cons_zero, List.set_cons_succ, AV.kill, AV.kill1, AO.kill, AV.noRow, AV.noRow1, AO.via, reduceIte, Nat.reduceEqDiff, Nat.reduceLT, Env.up, Nat.zero_ne_one, Nat.one_ne_zero, Nat.reduceAdd, List.cons_append, List.nil_append]; rotate_left 1) | (apply inI_of <;> omega))
    exact ⟨i + 1, by omega, by omega, ⟨lee rfl (by (repeat (first | exact le_nil | refine le_eq rfl rfl ?_))), by (repeat (first | exact lo_nil | refine lo_eq rfl ?_ | refine lo_eq (congrArg (AO.sli _) (hrs.symm)) ?_)), rfl, rfl⟩⟩
  have ei : i = W.length := by omega
  subst ei
  repeat' (first | (apply AOps.nil; try simp only [List.nil_append, List.cons_append, List.set_cons_zero, List.set_cons_succ, List.length_cons, List.length_nil, Nat.reduceAdd, AV.sh, AV.sh1, AV.sh0, AO.sh, List.map_cons, List.map_nil, Nat.zero_add, Nat.add_zero, setAll]) | (apply w_move; exact rfl; exact rfl) | (apply w_assign; exact rfl; exact rfl) | apply AWp.seq | apply AWp.region | ((apply AWp.condP; exact rfl) <;> intro h) | apply AWp.block | apply AWp.exit | apply AWp.skip | (apply w_len; exact rfl; exact rfl; first | exact .ints _ | exact .intss _ | exact .sli rfl | exact .sls rfl | exact .slr rfl | exact .orow rfl | exact .nil) | omega | ((first | apply w_lss | apply w_ld | apply w_fa); iterate 3 exact rfl) | (apply w_ldb; iterate 5 exact rfl))
  refine AWp.loop (ι := Nat × List Int × Int) (fun x => ⟨54, [(1, .optr 0 0), (3, .own 1), (4, .i x.2.2), (6, .i x.1)]⟩) (fun x => [.bx 27 [.ints W, .intss E], .sli 2 x.2.1]) (fun x => x.1 ≤ W.length ∧ LbI W.length (nearL E) x.1 x.2.1 x.2.2 ∧ x.2.1 = labS W.length (nearL E) x.1) (fun x => W.length - x.1) (0, List.replicate W.length (-1), 0) ⟨by simp only; omega, hstart, rfl⟩ ⟨lee rfl (by (repeat (first | exact le_nil | refine le_eq rfl rfl ?_))), by (repeat (first | exact lo_nil | refine lo_eq rfl ?_)), rfl, rfl⟩ ?_
  rintro ⟨i, L, m⟩ ⟨i1, hI, hS⟩
  simp only at i1 hI hS
  have hl := hI.len
  by_cases hi2 : i < W.length
  · have hmn : 0 ≤ m := by rw [hI.num]; omega
    by_cases hc : 0 ≤ geti L (i : Nat)
    · have hsk := hI.skip hi2 hc
      have hsk2 := labS_skip hI hi2 hc hS
      have hc' : 0 ≤ geti L (((i : Nat) : Int).toNat : Nat) := by rw [Int.toNat_natCast]; exact hc
      repeat' (first | (apply AOps.nil; try simp only [List.nil_append, List.cons_append, List.set_cons_zero, List.set_cons_succ, List.length_cons, List.length_nil, Nat.reduceAdd, AV.sh, AV.sh1, AV.sh0, AO.sh, List.map_cons, List.map_nil, Nat.zero_add, Nat.add_zero, setAll]) | (apply w_move; exact rfl; exact rfl) | (apply w_assign; exact rfl; exact rfl) | apply AWp.seq | apply AWp.region | ((apply AWp.condP; exact rfl) <;> intro h) | apply AWp.block | apply AWp.ret | apply AWp.exit | apply AWp.skip | (apply w_len; exact rfl; exact rfl; first | exact .ints _ | exact .intss _ | exact .sli rfl | exact .sls rfl | exact .slr rfl | exact .orow rfl | exact .nil) | omega | ((first | apply w_lss | apply w_geq | apply w_add | apply w_idx | apply w_ld); iterate 3 exact rfl) | (apply w_idxo; exact rfl; exact rfl; (exact .sli rfl); exact rfl) | (apply w_ldo; iterate 4 exact rfl) | (apply inI_of <;> omega))
      all_goals try (exfalso; omega)
      exact ⟨(i + 1, L, m), ⟨by simp only; omega, hsk, hsk2⟩, by simp only; omega, ⟨lee rfl (by (repeat (first | exact le_nil | refine le_eq rfl rfl ?_))), by (repeat (first | exact lo_nil | refine lo_eq rfl ?_)), rfl, rfl⟩⟩
    · have hc' : ¬ 0 ≤ geti L (((i : Nat) : Int).toNat : Nat) := by rw [Int.toNat_natCast]; exact hc
      have hor := hord (i : Nat) ⟨by omega, by omega⟩
      repeat' (first | (apply AOps.nil; try simp only [List.nil_append, List.cons_append, List.set_cons_zero, List.set_cons_succ, List.length_cons, List.length_nil, Nat.reduceAdd, AV.sh, AV.sh1, AV.sh0, AO.sh, List.map_cons, List.map_nil, Nat.zero_add, Nat.add_zero, setAll]) | (apply w_move; exact rfl; exact rfl) | (apply w_assign; exact rfl; exact rfl) | apply AWp.seq | apply AWp.region | ((apply AWp.condP; exact rfl) <;> intro h) | apply AWp.block | apply AWp.ret | apply AWp.exit | apply AWp.skip | (apply w_len; exact rfl; exact rfl; first | exact .ints _ | exact .intss _ | exact .sli rfl | exact .sls rfl | exact .slr rfl | exact .orow rfl | exact .nil) | (apply w_callc [] (hor); exact rfl; (exact handed0); (focus ((repeat (first | exact imu_nil | refine imu_cons rfl (imu_agg2 (.ints _) (.intss _)) ?_ | refine imu_cons rfl (.val _) ?_)); done)); rintro r os0 ⟨rfl, o, p, htr, rfl⟩; try simp only [List.nil_append, List.cons_append, List.set_cons_zero, List.set_cons_succ, List.length_cons, List.length_nil, Nat.reduceAdd, AV.sh, AV.sh1, AV.sh0, AO.sh, List.map_cons, List.map_nil, Nat.zero_add, Nat.add_zero, setAll]) | omega | ((first | apply w_lss | apply w_geq | apply w_idx | apply w_ld | apply w_extv); iterate 3 exact rfl) | ((first | apply w_idxs | apply w_lds | apply w_ext); iterate 3 exact rfl) | (apply w_idxo; exact rfl; exact rfl; (exact .sli rfl); exact rfl) | (apply w_ldo; iterate 4 exact rfl) | (apply w_ldst; iterate 5 exact rfl))
      all_goals try (exfalso; omega)
      obtain ⟨hnew, hmlt⟩ := hI.new hF hi2 hc htr
      have hnew2 := labS_new hF hI hi2 hc htr hS
      have hol := htr.bd
      have hor' := htr.rng
      refine AWp.loop (ι := Nat) (fun j => ⟨54, [(1, .optr 0 0), (3, .own 1), (4, .i m), (6, .i i), (7, .own 2), (9, .i j)]⟩) (fun j => [.bx 27 [.ints W, .intss E], .sli 2 (setT L (o.take j) m), .sli 2 o]) (fun j => j ≤ o.length) (fun j => o.length - j) 0 (by omega) ⟨lee rfl (by (repeat (first | exact le_nil | refine le_eq rfl rfl ?_))), by (repeat (first | exact lo_nil | refine lo_eq rfl ?_)), rfl, rfl⟩ ?_
      intro j j0
      have hsl := setT_len m (o.take j) L
      by_cases hj : j < o.length
      · obtain ⟨x, ex⟩ : ∃ x, x = geti o (((j : Nat) : Int).toNat : Nat) := ⟨_, rfl⟩
        have ex2 : o[j]? = some x := by
          rw [ex, Int.toNat_natCast]; simp [geti, List.getD_eq_getElem?_getD, List.getElem?_eq_getElem hj]
        have hxr := hor' x (List.mem_of_getElem? ex2)
        have et : setT L (o.take (j + 1)) m = (setT L (o.take j) m).set x.toNat m := by
          rw [List.take_add_one, ex2]; exact setT_snoc L (o.take j) x m
        generalize setT L (o.take j) m = M at *
        rw [ex] at hxr et
        repeat' (first | (apply AOps.nil; try simp only [List.nil_append, List.cons_append, List.set_cons_zero, List.set_cons_succ, List.length_cons, List.length_nil, Nat.reduceAdd, AV.sh, AV.sh1, AV.sh0, AO.sh, List.map_cons, List.map_nil, Nat.zero_add, Nat.add_zero, setAll]) | (apply w_move; exact rfl; exact rfl) | (apply w_assign; exact rfl; exact rfl) | apply AWp.seq | apply AWp.region | ((apply AWp.condP; exact rfl) <;> intro h) | apply AWp.block | apply AWp.exit | apply AWp.skip | (apply w_len; exact rfl; exact rfl; first | exact .ints _ | exact .intss _ | exact .sli rfl | exact .sls rfl | exact .slr rfl | exact .orow rfl | exact .nil) | omega | ((first | apply w_lss | apply w_add | apply w_idx | apply w_ld); iterate 3 exact rfl) | (apply w_idxo; exact rfl; exact rfl; (exact .sli rfl); exact rfl) | (apply w_ldo; iterate 4 exact rfl) | (apply w_sti; exact rfl; exact rfl; rotate_left 1; exact rfl; rotate_left 2) | (apply inI_of <;> omega))
        exact ⟨j + 1, by omega, by omega, ⟨lee rfl (by (repeat (first | exact le_nil | refine le_eq rfl rfl ?_))), by (repeat (first | exact lo_nil | refine lo_eq rfl ?_ | refine lo_eq (congrArg (AO.sli _) (et.symm)) ?_)), rfl, rfl⟩⟩
      · have ej : j = o.length := by omega
        subst ej
        rw [List.take_length]
        repeat' (first | (apply AOps.nil; try simp only [List.nil_append, List.cons_append, List.set_cons_zero, List.set_cons_succ, List.length_cons, List.length_nil, Nat.reduceAdd, AV.sh, AV.sh1, AV.sh0, AO.sh, List.map_cons, List.map_nil, Nat.zero_add, Nat.add_zero, setAll]) | (apply w_move; exact rfl; exact rfl) | (apply w_assign; exact rfl; exact rfl) | apply AWp.seq | apply AWp.region | ((apply AWp.condP; exact rfl) <;> intro h) | apply AWp.block | apply AWp.exit | apply AWp.skip | (apply w_len; exact rfl; exact rfl; first | exact .ints _ | exact .intss _ | exact .sli rfl | exact .sls rfl | exact .slr rfl | exact .orow rfl | exact .nil) | omega | ((first | apply w_lss | apply w_add); iterate 3 exact rfl) | (apply inI_of <;> omega))
        exact ⟨(i + 1, setT L o m, m + 1), ⟨by simp only; omega, hnew, hnew2⟩, by simp only; omega, ⟨lee rfl (by (repeat (first | exact le_nil | refine le_eq rfl rfl ?_))), by (repeat (first | exact lo_nil | refine lo_eq rfl ?_)), rfl, rfl⟩⟩
  · have ei : i = W.length := by omega
    subst ei
    repeat' (first | (apply AOps.nil; try simp only [List.nil_append, List.cons_append, List.set_cons_zero, List.set_cons_succ, List.length_cons, List.length_nil, Nat.reduceAdd, AV.sh, AV.sh1, AV.sh0, AO.sh, List.map_cons, List.map_nil, Nat.zero_add, Nat.add_zero, setAll]) | (apply w_move; exact rfl; exact rfl) | (apply w_assign; exact rfl; exact rfl) | apply AWp.seq | apply AWp.region | ((apply AWp.condP; exact rfl) <;> intro h) | apply AWp.block | apply AWp.ret | apply AWp.exit | apply AWp.skip | (apply w_len; exact rfl; exact rfl; first | exact .ints _ | exact .intss _ | exact .sli rfl | exact .sls rfl | exact .slr rfl | exact .orow rfl | exact .nil) | omega | ((apply w_lss); iterate 3 exact rfl))
    exact ⟨_, _, _, .v1 Try.results38 rfl, .sli rfl, rfl, by rw [hS]⟩
theorem labS_ok {n : Nat} {near : Int → List Int} (hF : Fst n near) (hn : 0 < n) : ∀ i, i ≤ n → ∃ m, LbI n near i (labS n near i) m
  | 0, _ => ⟨0, LbI.start hn⟩
  | i + 1, hi => by
    obtain ⟨m, h⟩ := labS_ok hF hn i (by omega)
    by_cases hc : 0 ≤ geti (labS n near i) (i : Nat)
    · rw [← labS_skip h (by omega) hc rfl]; exact ⟨m, h.skip (by omega) hc⟩
    · have hT := trC_ok hF (r := (i : Nat)) ⟨by omega, by omega⟩
      rw [← labS_new hF h (by omega) hc hT rfl]; exact ⟨m + 1, (h.new hF (by omega) hc hT).1⟩
/-- The index of a number: that of the root. -/
theorem index_root (W : List Int) (E : List (List Int)) (h : GrF W E) (v : Nat) (hv : v < W.length) :
    ∃ j : Nat, j ≤ v ∧ (j = v ↔ (v : Int) ∈ rts W.length (nearL E) W.length) ∧ AFnV Try.prog 39 [.ints (labS W.length (nearL E) W.length), .i (geti (labS W.length (nearL E) W.length) (v : Nat))] (.int .i64 j) := by
  obtain ⟨m, hL⟩ := labS_ok h.fo.fst (by have := h.n; omega) W.length (Nat.le_refl _)
  have hn := h.n
  have hlen := hL.len
  have hf := hL.first h.fo.fst hv
  by_cases hr : (v : Int) ∈ rts W.length (nearL E) W.length
  · exact ⟨v, Nat.le_refl _, ⟨fun _ => hr, fun _ => rfl⟩, l01Index_at _ _ v (by omega) (by omega) rfl (hf.2 hr)⟩
  · have hex : ∃ j : Nat, j < v ∧ geti (labS W.length (nearL E) W.length) (j : Nat) = geti (labS W.length (nearL E) W.length) (v : Nat) := by
      apply Classical.byContradiction
      intro hn2
      exact hr (hf.1 fun j hj he => hn2 ⟨j, hj, he⟩)
    have key : ∀ k : Nat, k ≤ v → (∃ j : Nat, j < k ∧ geti (labS W.length (nearL E) W.length) (j : Nat) = geti (labS W.length (nearL E) W.length) (v : Nat)) → ∃ j : Nat, j < k ∧ geti (labS W.length (nearL E) W.length) (j : Nat) = geti (labS W.length (nearL E) W.length) (v : Nat) ∧ ∀ q : Nat, q < j → geti (labS W.length (nearL E) W.length) (q : Nat) ≠ geti (labS W.length (nearL E) W.length) (v : Nat) := by
      intro k
      induction k with
      | zero => rintro _ ⟨j, hj, _⟩; omega
      | succ k ih =>
        intro hk hex
        by_cases h2 : ∃ j : Nat, j < k ∧ geti (labS W.length (nearL E) W.length) (j : Nat) = geti (labS W.length (nearL E) W.length) (v : Nat)
        · obtain ⟨j, j1, j2, j3⟩ := ih (by omega) h2
          exact ⟨j, by omega, j2, j3⟩
        · obtain ⟨j, j1, j2⟩ := hex
          have : j = k := Classical.byContradiction fun hne => h2 ⟨j, by omega, j2⟩
          subst this
          exact ⟨j, by omega, j2, fun q hq he => h2 ⟨q, hq, he⟩⟩
    obtain ⟨j, j1, j2, j3⟩ := key v (Nat.le_refl _) hex
    exact ⟨j, by omega, ⟨fun e => by omega, fun e => absurd e hr⟩, l01Index_at _ _ j (by omega) (by omega) j2 j3⟩
end Go.Proofs.Ythjkpmjdkcainaa
/-
  Branch determinants, walked: the reference. Condition: a forest of at most 40 vertices.
-/
namespace Go.Proofs.Ythjkpmjdkcainaa
open Go Go.RowKit
attribute [local irreducible] AWp AOps ResIs Ret1 QOp LOp COp AFnV AFn Imms LeE LeO
set_option maxHeartbeats 1000000
set_option linter.unusedSimpArgs false
set_option linter.unusedVariables false

set_option maxHeartbeats 32000000 in
theorem l11Branches_q (W : List Int) (E : List (List Int)) (h : GrF W E) : AFnC Try.prog 24 [.agg [.ints W, .intss E]] [] (fun r os => (bdOk W.length (nearL E) W ∧ r = .tup [.own 0, .own 1, .b true] ∧ os = [.sli 2 (bdF W.length (nearL E) W), .sli 2 (bdG W.length (nearL E) W)]) ∨
      (¬ bdOk W.length (nearL E) W ∧ r = .tup [.val (.slice none 0 0), .val (.slice none 0 0), .b false] ∧ os = [])) := by
  have hn := h.n
  have hF := h.fo.fst
  have hw := h.w
  have hlab := l11Labels_c W E h
  have hord := l11Order_c W E h
  have hnear := l11Near_c W E h
  have hidx := index_root W E h
  have hlen : (labS W.length (nearL E) W.length).length = W.length := by
    obtain ⟨m, hL⟩ := labS_ok hF (by omega) W.length (Nat.le_refl _)
    exact hL.len
  have hstart := OutI.start (n := W.length) (near := nearL E) (W := W)
  generalize labS W.length (nearL E) W.length = Lb at *
  (refine AFnC.start Try.func24 Try.ntmps24 rfl (by kernel_rfl) fun K => ?_; simp only [Env.start, enumF, List.map_cons, List.map_nil, AV.sh, List.length_cons, List.length_nil, Nat.reduceAdd, Nat.reduceSub, List.cons_append, List.nil_append])
  repeat' (first | (apply AOps.nil; try simp only [List.nil_append, List.cons_append, List.set_cons_zero, List.set_cons_succ, List.length_cons, List.length_nil, Nat.reduceAdd, AV.sh, AV.sh1, AV.sh0, AO.sh, List.map_cons, List.map_nil, Nat.zero_add, Nat.add_zero, setAll]) | (apply w_assign; exact rfl; exact rfl) | apply AWp.seq | apply AWp.region | (apply w_len; exact rfl; exact rfl; first | exact .ints _ | exact .intss _ | exact .sli rfl | exact .sls rfl | exact .slr rfl | exact .orow rfl | exact .nil) | ((first | apply w_ld | apply w_fa); iterate 3 exact rfl) | ((apply w_boxa); iterate 2 exact rfl) | (apply w_ldb; iterate 5 exact rfl))
  refine AWp.regionG [] (by kernel_rfl) (envC := ⟨145, [(1, .optr 1 0), (5, .i W.length), (6, .own 2), (7, .own 3), (8, .own 4)]⟩) (osC := [.keep 1 K, .bx 27 [.ints W, .intss E], .sli 2 (List.replicate W.length 0), .sli 2 (List.replicate W.length 0), .sli 2 Lb]) rfl (by first | exact rfl | (simp [AO.lim, AV.lim, bL_lim]; done)) ?_ ?_
  · repeat' (first | (apply AOps.nil; try simp only [List.nil_append, List.cons_append, List.set_cons_zero, List.set_cons_succ, List.length_cons, List.length_nil, Nat.reduceAdd, AV.sh, AV.sh1, AV.sh0, AO.sh, List.map_cons, List.map_nil, Nat.zero_add, Nat.add_zero, setAll]) | (apply w_move; exact rfl; exact rfl) | (apply w_assign; exact rfl; exact rfl) | apply AllOfG.nil | (apply AllOfG.consQ; exact rfl; exact rfl) | (apply AllOfG.consS; exact rfl; exact rfl) | (apply AAnyG.takeW; exact rfl; exact rfl; kernel_rfl; kernel_rfl) | (apply AAnyG.takeL; exact rfl; exact rfl; kernel_rfl) | (apply AAnyG.all; exact rfl) | (apply AAnyG.done; exact rfl) | (apply w_callm (hlab); (focus ((repeat (first | exact im_nil | refine im_cons rfl (im_agg2 (.ints _) (.intss _)) ?_)); done)); rintro r os0 ⟨rfl, rfl⟩; try simp only [List.nil_append, List.cons_append, List.set_cons_zero, List.set_cons_succ, List.length_cons, List.length_nil, Nat.reduceAdd, AV.sh, AV.sh1, AV.sh0, AO.sh, List.map_cons, List.map_nil, Nat.zero_add, Nat.add_zero, setAll]) | omega | (apply w_ldst; iterate 5 exact rfl) | (apply w_mki; exact rfl; exact rfl; rotate_left 3; exact rfl; rotate_left 1))
    all_goals first | (apply Or.inl; refine ⟨lee rfl ?_, ?_, rfl, (by first | exact rfl | (simp [AO.lim, AV.lim, bL_lim]; done))⟩; (focus ((repeat (first | exact le_nil | refine le_eq rfl rfl ?_)); done)); (focus ((repeat (first | exact lo_nil | refine lo_eq rfl ?_)); done))) | (apply Or.inr; refine ⟨[0, 1, 3, 2, 4], ⟨by decide, fun x hx => Nat.lt_of_lt_of_le ((by decide : ∀ x ∈ ([0, 1, 3, 2, 4] : List Nat), x < 5) x hx) (Nat.le_of_ble_eq_true rfl)⟩, lee rfl ?_, ?_, rfl, (by first | exact rfl | (simp [AO.lim, AV.lim, bL_lim]; done))⟩; (focus ((repeat (first | exact le_nil | refine le_eq rfl rfl ?_)); done)); (focus ((repeat (first | exact lo_nil | refine lo_eq rfl ?_)); done))) | (apply Or.inr; refine ⟨[0, 1, 2, 4, 3], ⟨by decide, fun x hx => Nat.lt_of_lt_of_le ((by decide : ∀ x ∈ ([0, 1, 2, 4, 3] : List Nat), x < 5) x hx) (Nat.le_of_ble_eq_true rfl)⟩, lee rfl ?_, ?_, rfl, (by first | exact rfl | (simp [AO.lim, AV.lim, bL_lim]; done))⟩; (focus ((repeat (first | exact le_nil | refine le_eq rfl rfl ?_)); done)); (focus ((repeat (first | exact lo_nil | refine lo_eq rfl ?_)); done))) | (apply Or.inr; refine ⟨[0, 1, 4, 2, 3], ⟨by decide, fun x hx => Nat.lt_of_lt_of_le ((by decide : ∀ x ∈ ([0, 1, 4, 2, 3] : List Nat), x < 5) x hx) (Nat.le_of_ble_eq_true rfl)⟩, lee rfl ?_, ?_, rfl, (by first | exact rfl | (simp [AO.lim, AV.lim, bL_lim]; done))⟩; (focus ((repeat (first | exact le_nil | refine le_eq rfl rfl ?_)); done)); (focus ((repeat (first | exact lo_nil | refine lo_eq rfl ?_)); done))) | (apply Or.inr; refine ⟨[0, 1, 3, 4, 2], ⟨by decide, fun x hx => Nat.lt_of_lt_of_le ((by decide : ∀ x ∈ ([0, 1, 3, 4, 2] : List Nat), x < 5) x hx) (Nat.le_of_ble_eq_true rfl)⟩, lee rfl ?_, ?_, rfl, (by first | exact rfl | (simp [AO.lim, AV.lim, bL_lim]; done))⟩; (focus ((repeat (first | exact le_nil | refine le_eq rfl rfl ?_)); done)); (focus ((repeat (first | exact lo_nil | refine lo_eq rfl ?_)); done))) | (apply Or.inr; refine ⟨[0, 1, 4, 3, 2], ⟨by decide, fun x hx => Nat.lt_of_lt_of_le ((by decide : ∀ x ∈ ([0, 1, 4, 3, 2] : List Nat), x < 5) x hx) (Nat.le_of_ble_eq_true rfl)⟩, lee rfl ?_, ?_, rfl, (by first | exact rfl | (simp [AO.lim, AV.lim, bL_lim]; done))⟩; (focus ((repeat (first | exact le_nil | refine le_eq rfl rfl ?_)); done)); (focus ((repeat (first | exact lo_nil | refine lo_eq rfl ?_)); done)))
  repeat' (first | (apply AOps.nil; try simp only [List.nil_append, List.cons_append, List.set_cons_zero, List.set_cons_succ, List.length_cons, List.length_nil, Nat.reduceAdd, AV.sh, AV.sh1, AV.sh0, AO.sh, List.map_cons, List.map_nil, Nat.zero_add, Nat.add_zero, setAll]) | (apply w_assign; exact rfl; exact rfl) | apply AWp.seq | apply AWp.region | apply AWp.block)
  refine AWp.loop (ι := Nat × List Int × List Int) (fun x => ⟨145, [(1, .optr 1 0), (5, .i W.length), (6, .own 2), (7, .own 3), (8, .own 4), (9, .i x.1)]⟩) (fun x => [.keep 1 K, .bx 27 [.ints W, .intss E], .sli 2 x.2.1, .sli 2 x.2.2, .sli 2 Lb]) (fun x => x.1 ≤ W.length ∧ OutI W.length (nearL E) W x.1 x.2.1 x.2.2) (fun x => W.length - x.1) (0, List.replicate W.length 0, List.replicate W.length 0) ⟨by simp only; omega, hstart⟩ ⟨lee rfl (by (repeat (first | exact le_nil | refine le_eq rfl rfl ?_))), by (repeat (first | exact lo_nil | refine lo_eq rfl ?_)), rfl, (by first | exact rfl | (simp [AO.lim, AV.lim, bL_lim]; done))⟩ ?_
  rintro ⟨i, f0, h0⟩ ⟨i1, hO⟩
  simp only at i1 hO
  by_cases hi : i < W.length
  · obtain ⟨jx, jx1, jx2, hix⟩ := hidx i hi
    have e7 : geti Lb (((i : Nat) : Int).toNat : Nat) = geti Lb (i : Nat) := by rw [Int.toNat_natCast]
    rw [← e7] at hix
    by_cases hr : (i : Int) ∈ rts W.length (nearL E) W.length
    · have hor := hord (i : Nat) ⟨by omega, by omega⟩
      have ejx := jx2.2 hr
      repeat' (first | (apply AOps.nil; try simp only [List.nil_append, List.cons_append, List.set_cons_zero, List.set_cons_succ, List.length_cons, List.length_nil, Nat.reduceAdd, AV.sh, AV.sh1, AV.sh0, AO.sh, List.map_cons, List.map_nil, Nat.zero_add, Nat.add_zero, setAll]) | (apply w_move; exact rfl; exact rfl) | (apply w_assign; exact rfl; exact rfl) | apply AWp.seq | apply AWp.region | ((apply AWp.condP; exact rfl) <;> intro h) | apply AWp.block | apply AWp.ret | apply AWp.exit | apply AWp.skip | (apply w_len; exact rfl; exact rfl; first | exact .ints _ | exact .intss _ | exact .sli rfl | exact .sls rfl | exact .slr rfl | exact .orow rfl | exact .nil) | (apply w_call (hix); exact rfl; exact rfl; focus ((repeat (first | exact im_nil | refine im_cons rfl (.val _) ?_ | refine im_cons rfl (.sli rfl) ?_)); done)) | (apply w_callc [] (hor); exact rfl; (exact handed0); (focus ((repeat (first | exact imu_nil | refine imu_cons rfl (imu_agg2 (.ints _) (.intss _)) ?_ | refine imu_cons rfl (.val _) ?_)); done)); rintro r os0 ⟨rfl, o, p, htr, rfl⟩; try simp only [List.nil_append, List.cons_append, List.set_cons_zero, List.set_cons_succ, List.length_cons, List.length_nil, Nat.reduceAdd, AV.sh, AV.sh1, AV.sh0, AO.sh, List.map_cons, List.map_nil, Nat.zero_add, Nat.add_zero, setAll]) | omega | ((first | apply w_lss | apply w_neq | apply w_sub | apply w_idx | apply w_ld | apply w_extv); iterate 3 exact rfl) | ((first | apply w_idxs | apply w_lds | apply w_ext); iterate 3 exact rfl) | (apply w_idxo; exact rfl; exact rfl; (exact .sli rfl); exact rfl) | (apply w_ldo; iterate 4 exact rfl) | (apply w_ldst; iterate 5 exact rfl))
      all_goals try (exfalso; omega)
      case _ => have := htr.bd; (apply inI_of <;> omega)
      have hol := htr.bd
      have hrg := htr.rng
      have hpl := htr.len
      refine AWp.loop (ι := Nat × List Int × List Int) (fun x => ⟨145, [(1, .optr 1 0), (5, .i W.length), (6, .own 2), (7, .own 3), (8, .own 4), (9, .i i), (10, .own 5), (11, .own 6), (12, .i ((x.1 : Int) - 1))]⟩) (fun x => [.keep 1 K, .bx 27 [.ints W, .intss E], .sli 2 x.2.1, .sli 2 x.2.2, .sli 2 Lb, .sli 2 o, .sli 2 p]) (fun x => MidI W.length (nearL E) W o p f0 h0 x.1 x.2.1 x.2.2) (fun x => x.1) (o.length, f0, h0) (MidI.start hO) ⟨lee rfl (by (repeat (first | exact le_nil | refine le_eq rfl rfl ?_))), by (repeat (first | exact lo_nil | refine lo_eq rfl ?_)), rfl, (by first | exact rfl | (simp [AO.lim, AV.lim, bL_lim]; done))⟩ ?_
      rintro ⟨t, f, g⟩ hM
      simp only at hM
      have lf := hM.lf
      have lg := hM.lh
      have hle := hM.le
      by_cases ht : t = 0
      · subst ht
        have hdone := hM.done hF hi htr hO hr
        repeat' (first | (apply AOps.nil; try simp only [List.nil_append, List.cons_append, List.set_cons_zero, List.set_cons_succ, List.length_cons, List.length_nil, Nat.reduceAdd, AV.sh, AV.sh1, AV.sh0, AO.sh, List.map_cons, List.map_nil, Nat.zero_add, Nat.add_zero, setAll]) | (apply w_move; exact rfl; exact rfl) | (apply w_assign; exact rfl; exact rfl) | apply AWp.seq | apply AWp.region | ((apply AWp.condP; exact rfl) <;> intro h) | apply AWp.block | apply AWp.exit | apply AWp.skip | omega | ((first | apply w_geq | apply w_add); iterate 3 exact rfl) | (apply inI_of <;> omega))
        all_goals try (exfalso; omega)
        exact ⟨(i + 1, f, g), ⟨by simp only; omega, hdone⟩, by simp only; omega, ⟨lee rfl (by (repeat (first | exact le_nil | refine le_eq rfl rfl ?_))), by (repeat (first | exact lo_nil | refine lo_eq rfl ?_)), rfl, (by first | exact rfl | (simp [AO.lim, AV.lim, bL_lim]; done))⟩⟩
      obtain ⟨s, rfl⟩ : ∃ s, t = s + 1 := ⟨t - 1, by omega⟩
      rw [show (((s + 1 : Nat) : Int) - 1) = (s : Nat) by omega]
      obtain ⟨v, ev⟩ : ∃ v, v = geti o (((s : Nat) : Int).toNat : Nat) := ⟨_, rfl⟩
      have hso : s < o.length := by omega
      have ev2 : o[s]? = some v := by
        rw [ev, Int.toNat_natCast]; simp [geti, List.getD_eq_getElem?_getD, List.getElem?_eq_getElem hso]
      have hvm := List.mem_of_getElem? ev2
      have hvr := hrg v hvm
      have hwv := hw v
      have hnv := hnear v
      have hnl := fun u => hF.bnd v u
      have hput := fun P R q1 q2 q3 => hM.put (P := P) (R := R) htr ev2 q1 q2 q3
      repeat' (first | (apply AOps.nil; try simp only [List.nil_append, List.cons_append, List.set_cons_zero, List.set_cons_succ, List.length_cons, List.length_nil, Nat.reduceAdd, AV.sh, AV.sh1, AV.sh0, AO.sh, List.map_cons, List.map_nil, Nat.zero_add, Nat.add_zero, setAll]) | (apply w_move; exact rfl; exact rfl) | (apply w_assign; exact rfl; exact rfl) | apply AWp.seq | apply AWp.region | ((apply AWp.condP; exact rfl) <;> intro h) | apply AWp.block | apply AWp.exit | apply AWp.skip | omega | ((first | apply w_geq | apply w_idx | apply w_ld); iterate 3 exact rfl) | (apply w_idxo; exact rfl; exact rfl; (exact .sli rfl); exact rfl) | (apply w_ldo; iterate 4 exact rfl))
      all_goals try (exfalso; omega)
      rw [← ev]
      refine AWp.regionG [] (by kernel_rfl) (envC := ⟨145, [(1, .optr 1 0), (5, .i W.length), (6, .own 2), (7, .own 3), (8, .own 4), (9, .i i), (10, .own 5), (11, .own 6), (12, .i s), (13, .i v), (14, .i 1), (15, .i (-geti W v))]⟩) (osC := [.keep 1 K, .bx 27 [.ints W, .intss E], .sli 2 f, .sli 2 g, .sli 2 Lb, .sli 2 o, .sli 2 p]) rfl (by first | exact rfl | (simp [AO.lim, AV.lim, bL_lim]; done)) ?_ ?_
      · repeat' (first | (apply AOps.nil; try simp only [List.nil_append, List.cons_append, List.set_cons_zero, List.set_cons_succ, List.length_cons, List.length_nil, Nat.reduceAdd, AV.sh, AV.sh1, AV.sh0, AO.sh, List.map_cons, List.map_nil, Nat.zero_add, Nat.add_zero, setAll]) | (apply w_move; exact rfl; exact rfl) | (apply w_assign; exact rfl; exact rfl) | (apply AAnyG.takeW; exact rfl; exact rfl; kernel_rfl; kernel_rfl) | (apply AAnyG.takeL; exact rfl; exact rfl; kernel_rfl) | (apply AAnyG.done; exact rfl) | omega | ((first | apply w_idx | apply w_ld | apply w_fa); iterate 3 exact rfl) | ((apply w_neg); iterate 2 exact rfl) | (apply w_ldb; iterate 5 exact rfl) | (apply inI_of <;> omega))
        all_goals (apply Or.inl; refine ⟨lee rfl ?_, ?_, rfl, (by first | exact rfl | (simp [AO.lim, AV.lim, bL_lim]; done))⟩; (focus ((repeat (first | exact le_nil | refine le_eq rfl rfl ?_ | (refine le_eq rfl (congrArg AV.i ?_) ?_; (focus (omega; done))))); done)); (focus ((repeat (first | exact lo_nil | refine lo_eq rfl ?_)); done)))
      repeat' (first | (apply AOps.nil; try simp only [List.nil_append, List.cons_append, List.set_cons_zero, List.set_cons_succ, List.length_cons, List.length_nil, Nat.reduceAdd, AV.sh, AV.sh1, AV.sh0, AO.sh, List.map_cons, List.map_nil, Nat.zero_add, Nat.add_zero, setAll]) | (apply w_move; exact rfl; exact rfl) | (apply w_assign; exact rfl; exact rfl) | apply AWp.seq | apply AWp.region | apply AWp.block | (apply w_callm (hnv); (focus ((repeat (first | exact im_nil | refine im_cons rfl (im_agg2 (.ints _) (.intss _)) ?_ | refine im_cons rfl (.val _) ?_)); done)); rintro r os0 ⟨rfl, rfl⟩; try simp only [List.nil_append, List.cons_append, List.set_cons_zero, List.set_cons_succ, List.length_cons, List.length_nil, Nat.reduceAdd, AV.sh, AV.sh1, AV.sh0, AO.sh, List.map_cons, List.map_nil, Nat.zero_add, Nat.add_zero, setAll]) | (apply w_ldst; iterate 5 exact rfl))
      have hstI := InV.start (n := W.length) (near := nearL E) (W := W) (p := p) (v := v)
      have hfin := fun P R q => InV.fin (n := W.length) (W := W) (P := P) (R := R) htr hvm q
      have hch := fun c q1 q2 => hM.child (c := c) htr ev2 q1 q2
      have hskip := fun k u P R => @InV.skip W.length (nearL E) W p v u P R k
      have hstep := fun k u P R => @InV.step W.length (nearL E) W p f g v u P R k
      have hbad := fun k u P R => @InV.bad W.length (nearL E) W (i : Nat) o p f g v u P R k htr hvm
      have hbdd := bd_bad (W := W) hF hi hr htr hvm
      have hnvl : (nearL E v).length ≤ W.length := nd_len (hF.nd v) (fun x hx => (hF.bnd v x hx).1)
      generalize hNV : nearL E v = nv at *
      refine AWp.loop (ι := Nat × Int × Int) (fun x => ⟨145, [(1, .optr 1 0), (5, .i W.length), (6, .own 2), (7, .own 3), (8, .own 4), (9, .i i), (10, .own 5), (11, .own 6), (12, .i s), (13, .i v), (14, .i x.2.1), (15, .i x.2.2), (16, .own 7), (17, .i x.1)]⟩) (fun _ => [.keep 1 K, .bx 27 [.ints W, .intss E], .sli 2 f, .sli 2 g, .sli 2 Lb, .sli 2 o, .sli 2 p, .sli 2 nv]) (fun x => x.1 ≤ nv.length ∧ InV W.length (nearL E) W p v x.1 x.2.1 x.2.2 ∧ inM x.2.1 ∧ inM x.2.2) (fun x => nv.length - x.1) (0, 1, -geti W v) ⟨by simp only; omega, hstI, by simp only [inM]; omega, by simp only [inM]; omega⟩ ⟨lee rfl (by (repeat (first | exact le_nil | refine le_eq rfl rfl ?_))), by (repeat (first | exact lo_nil | refine lo_eq rfl ?_)), rfl, (by first | exact rfl | (simp [AO.lim, AV.lim, bL_lim]; done))⟩ ?_
      rintro ⟨k, P, R⟩ ⟨k0, hI, hP, hR⟩
      simp only at k0 hI hP hR
      by_cases hk : k < nv.length
      · obtain ⟨u, eu⟩ : ∃ u, u = geti nv (((k : Nat) : Int).toNat : Nat) := ⟨_, rfl⟩
        have eu2 : nv[k]? = some u := by
          rw [eu, Int.toNat_natCast]; simp [geti, List.getD_eq_getElem?_getD, List.getElem?_eq_getElem hk]
        have hum : u ∈ nv := List.mem_of_getElem? eu2
        obtain ⟨ur, _, _⟩ := hnl u hum
        by_cases hup : u = geti p v
        · have hI2 := hskip k u P R hI eu2 hup
          have hup' : geti nv (((k : Nat) : Int).toNat : Nat) = geti p (v.toNat : Nat) := by rw [← eu, Int.toNat_of_nonneg hvr.1]; exact hup
          repeat' (first | (apply AOps.nil; try simp only [List.nil_append, List.cons_append, List.set_cons_zero, List.set_cons_succ, List.length_cons, List.length_nil, Nat.reduceAdd, AV.sh, AV.sh1, AV.sh0, AO.sh, List.map_cons, List.map_nil, Nat.zero_add, Nat.add_zero, setAll]) | (apply w_move; exact rfl; exact rfl) | (apply w_assign; exact rfl; exact rfl) | apply AWp.seq | apply AWp.region | ((apply AWp.condP; exact rfl) <;> intro h) | apply AWp.block | apply AWp.exit | apply AWp.skip | (apply w_len; exact rfl; exact rfl; first | exact .ints _ | exact .intss _ | exact .sli rfl | exact .sls rfl | exact .slr rfl | exact .orow rfl | exact .nil) | omega | ((first | apply w_lss | apply w_eql | apply w_add | apply w_idx | apply w_ld); iterate 3 exact rfl) | (apply w_idxo; exact rfl; exact rfl; (exact .sli rfl); exact rfl) | (apply w_ldo; iterate 4 exact rfl) | (apply inI_of <;> omega))
          all_goals try (exfalso; first | exact absurd hup' (by assumption) | exact absurd (by assumption) hup')
          exact ⟨(k + 1, P, R), ⟨by simp only; omega, hI2, hP, hR⟩, by simp only; omega, ⟨lee rfl (by (repeat (first | exact le_nil | refine le_eq rfl rfl ?_))), by (repeat (first | exact lo_nil | refine lo_eq rfl ?_)), rfl, (by first | exact rfl | (simp [AO.lim, AV.lim, bL_lim]; done))⟩⟩
        · have hup' : ¬ geti nv (((k : Nat) : Int).toNat : Nat) = geti p (v.toNat : Nat) := by rw [← eu, Int.toNat_of_nonneg hvr.1]; exact hup
          have hV := hch u hum hup
          have hI2 := hstep k u P R hI eu2 hup hV
          have hB := fun hn => hbdd (hbad k u P R hI eu2 hup hV hn)
          have hmf : inM (geti f u) := hM.bf _ (geti_mem ur.1 (by omega))
          have hmg : inM (geti g u) := hM.bh _ (geti_mem ur.1 (by omega))
          have eF : geti f (u.toNat : Nat) = geti f u := by rw [Int.toNat_of_nonneg ur.1]
          have eG : geti g (u.toNat : Nat) = geti g u := by rw [Int.toNat_of_nonneg ur.1]
          rw [← eF] at hmf hI2 hB
          rw [← eG] at hmg hI2 hB
          have c1 := l11Times_c R (geti f (u.toNat : Nat)) hR hmf
          have c2 := l11Times_c P (geti g (u.toNat : Nat)) hP hmg
          have c3 := l11Times_c P (geti f (u.toNat : Nat)) hP hmf
          have b1 := tmV_in R (geti f (u.toNat : Nat))
          have b2 := tmV_in P (geti g (u.toNat : Nat))
          have b3 := tmV_in P (geti f (u.toNat : Nat))
          have cv := l01In_c (tmV R (geti f (u.toNat : Nat)) - tmV P (geti g (u.toNat : Nat))) (-1000000000000) 1000000000000
          have hok := okS_iff P R (geti f (u.toNat : Nat)) (geti g (u.toNat : Nat))
          have e1 : tok R (geti f (u.toNat : Nat)) = true → tmV R (geti f (u.toNat : Nat)) = R * geti f (u.toNat : Nat) := fun h => by unfold tmV; rw [if_pos h]
          have e2 : tok P (geti g (u.toNat : Nat)) = true → tmV P (geti g (u.toNat : Nat)) = P * geti g (u.toNat : Nat) := fun h => by unfold tmV; rw [if_pos h]
          have e3 : tok P (geti f (u.toNat : Nat)) = true → tmV P (geti f (u.toNat : Nat)) = P * geti f (u.toNat : Nat) := fun h => by unfold tmV; rw [if_pos h]
          have b1' := b1
          have b2' := b2
          unfold inM at b1' b2'
          repeat' (first | (apply AOps.nil; try simp only [List.nil_append, List.cons_append, List.set_cons_zero, List.set_cons_succ, List.length_cons, List.length_nil, Nat.reduceAdd, AV.sh, AV.sh1, AV.sh0, AO.sh, List.map_cons, List.map_nil, Nat.zero_add, Nat.add_zero, setAll]) | (apply w_move; exact rfl; exact rfl) | (apply w_assign; exact rfl; exact rfl) | apply AWp.seq | apply AWp.region | ((apply AWp.condP; exact rfl) <;> intro h) | apply AWp.block | apply AWp.exit | apply AWp.skip | (apply w_len; exact rfl; exact rfl; first | exact .ints _ | exact .intss _ | exact .sli rfl | exact .sls rfl | exact .slr rfl | exact .orow rfl | exact .nil) | omega | ((first | apply w_lss | apply w_eql | apply w_idx | apply w_ld); iterate 3 exact rfl) | (apply w_idxo; exact rfl; exact rfl; (exact .sli rfl); exact rfl) | (apply w_ldo; iterate 4 exact rfl))
          all_goals try (exfalso; first | exact absurd hup' (by assumption) | exact absurd (by assumption) hup')
          rw [← eu]
          cases h1 : tok R (geti f (u.toNat : Nat)) with
          | false =>
            rw [h1] at c1 hok
            have hbd := hB (by rw [hok]; simp)
            repeat' (first | (apply AOps.nil; try simp only [List.nil_append, List.cons_append, List.set_cons_zero, List.set_cons_succ, List.length_cons, List.length_nil, Nat.reduceAdd, AV.sh, AV.sh1, AV.sh0, AO.sh, List.map_cons, List.map_nil, Nat.zero_add, Nat.add_zero, setAll]) | (apply w_move; exact rfl; exact rfl) | (apply w_assign; exact rfl; exact rfl) | apply AWp.seq | apply AWp.region | (apply AWp.condT; exact rfl) | apply AWp.ret | (apply w_skip; exact rfl) | (apply w_pickT; exact rfl; exact rfl; exact rfl) | (apply w_call (c1); exact rfl; exact rfl; focus ((repeat (first | exact im_nil | refine im_cons rfl (.val _) ?_)); done)) | (apply w_call (c2); exact rfl; exact rfl; focus ((repeat (first | exact im_nil | refine im_cons rfl (.val _) ?_)); done)) | (apply w_call (c3); exact rfl; exact rfl; focus ((repeat (first | exact im_nil | refine im_cons rfl (.val _) ?_)); done)) | omega | ((first | apply w_sub | apply w_idx | apply w_ld | apply w_extv); iterate 3 exact rfl) | ((apply w_not); iterate 2 exact rfl) | (apply w_idxo; exact rfl; exact rfl; (exact .sli rfl); exact rfl) | (apply w_ldo; iterate 4 exact rfl) | (apply inI_of <;> omega))
            all_goals try (exfalso; omega)
            refine ⟨⟨145, [(2, .val (.slice none 0 0)), (3, .val (.slice none 0 0)), (4, .b false)]⟩, [], .tup [.val (.slice none 0 0), .val (.slice none 0 0), .b false], Turns.or ?_, ResIs.a3 rfl rfl rfl rfl, all_cons' trivial (all_cons' trivial (all_cons' trivial all_nil')), .inr ⟨hbd, rfl, rfl⟩, all_nil'⟩
            (apply Or.inl; refine ⟨lee rfl ?_, ?_, rfl, (by first | exact rfl | (simp [AO.lim, AV.lim, bL_lim]; done))⟩; (focus ((repeat (first | exact le_nil | refine le_eq rfl rfl ?_)); done)); (focus ((repeat (first | exact lo_nil | refine lo_eq rfl ?_)); done)))
          | true =>
          rw [h1] at c1 hok
          cases h2 : tok P (geti g (u.toNat : Nat)) with
          | false =>
            rw [h2] at c2 hok
            have hbd := hB (by rw [hok]; simp)
            repeat' (first | (apply AOps.nil; try simp only [List.nil_append, List.cons_append, List.set_cons_zero, List.set_cons_succ, List.length_cons, List.length_nil, Nat.reduceAdd, AV.sh, AV.sh1, AV.sh0, AO.sh, List.map_cons, List.map_nil, Nat.zero_add, Nat.add_zero, setAll]) | (apply w_move; exact rfl; exact rfl) | (apply w_assign; exact rfl; exact rfl) | apply AWp.seq | apply AWp.region | (apply AWp.condT; exact rfl) | apply AWp.ret | (apply w_skip; exact rfl) | (apply w_pickT; exact rfl; exact rfl; exact rfl) | (apply w_pickF; exact rfl; exact rfl; exact rfl) | (apply w_call (c1); exact rfl; exact rfl; focus ((repeat (first | exact im_nil | refine im_cons rfl (.val _) ?_)); done)) | (apply w_call (c2); exact rfl; exact rfl; focus ((repeat (first | exact im_nil | refine im_cons rfl (.val _) ?_)); done)) | (apply w_call (c3); exact rfl; exact rfl; focus ((repeat (first | exact im_nil | refine im_cons rfl (.val _) ?_)); done)) | omega | ((first | apply w_sub | apply w_idx | apply w_ld | apply w_extv); iterate 3 exact rfl) | ((apply w_not); iterate 2 exact rfl) | (apply w_idxo; exact rfl; exact rfl; (exact .sli rfl); exact rfl) | (apply w_ldo; iterate 4 exact rfl) | (apply inI_of <;> omega))
            all_goals try (exfalso; omega)
            refine ⟨⟨145, [(2, .val (.slice none 0 0)), (3, .val (.slice none 0 0)), (4, .b false)]⟩, [], .tup [.val (.slice none 0 0), .val (.slice none 0 0), .b false], Turns.or ?_, ResIs.a3 rfl rfl rfl rfl, all_cons' trivial (all_cons' trivial (all_cons' trivial all_nil')), .inr ⟨hbd, rfl, rfl⟩, all_nil'⟩
            (apply Or.inl; refine ⟨lee rfl ?_, ?_, rfl, (by first | exact rfl | (simp [AO.lim, AV.lim, bL_lim]; done))⟩; (focus ((repeat (first | exact le_nil | refine le_eq rfl rfl ?_)); done)); (focus ((repeat (first | exact lo_nil | refine lo_eq rfl ?_)); done)))
          | true =>
          rw [h2] at c2 hok
          cases h3 : tok P (geti f (u.toNat : Nat)) with
          | false =>
            rw [h3] at c3 hok
            have hbd := hB (by rw [hok]; simp)
            repeat' (first | (apply AOps.nil; try simp only [List.nil_append, List.cons_append, List.set_cons_zero, List.set_cons_succ, List.length_cons, List.length_nil, Nat.reduceAdd, AV.sh, AV.sh1, AV.sh0, AO.sh, List.map_cons, List.map_nil, Nat.zero_add, Nat.add_zero, setAll]) | (apply w_move; exact rfl; exact rfl) | (apply w_assign; exact rfl; exact rfl) | apply AWp.seq | apply AWp.region | (apply AWp.condT; exact rfl) | apply AWp.ret | (apply w_skip; exact rfl) | (apply w_pickT; exact rfl; exact rfl; exact rfl) | (apply w_pickF; exact rfl; exact rfl; exact rfl) | (apply w_call (c1); exact rfl; exact rfl; focus ((repeat (first | exact im_nil | refine im_cons rfl (.val _) ?_)); done)) | (apply w_call (c2); exact rfl; exact rfl; focus ((repeat (first | exact im_nil | refine im_cons rfl (.val _) ?_)); done)) | (apply w_call (c3); exact rfl; exact rfl; focus ((repeat (first | exact im_nil | refine im_cons rfl (.val _) ?_)); done)) | omega | ((first | apply w_sub | apply w_idx | apply w_ld | apply w_extv); iterate 3 exact rfl) | ((apply w_not); iterate 2 exact rfl) | (apply w_idxo; exact rfl; exact rfl; (exact .sli rfl); exact rfl) | (apply w_ldo; iterate 4 exact rfl) | (apply inI_of <;> omega))
            all_goals try (exfalso; omega)
            refine ⟨⟨145, [(2, .val (.slice none 0 0)), (3, .val (.slice none 0 0)), (4, .b false)]⟩, [], .tup [.val (.slice none 0 0), .val (.slice none 0 0), .b false], Turns.or ?_, ResIs.a3 rfl rfl rfl rfl, all_cons' trivial (all_cons' trivial (all_cons' trivial all_nil')), .inr ⟨hbd, rfl, rfl⟩, all_nil'⟩
            (apply Or.inl; refine ⟨lee rfl ?_, ?_, rfl, (by first | exact rfl | (simp [AO.lim, AV.lim, bL_lim]; done))⟩; (focus ((repeat (first | exact le_nil | refine le_eq rfl rfl ?_)); done)); (focus ((repeat (first | exact lo_nil | refine lo_eq rfl ?_)); done)))
          | true =>
          rw [h3] at c3 hok
          cases h4 : decide (-1000000000000 ≤ tmV R (geti f (u.toNat : Nat)) - tmV P (geti g (u.toNat : Nat)) ∧ tmV R (geti f (u.toNat : Nat)) - tmV P (geti g (u.toNat : Nat)) ≤ 1000000000000) with
          | false =>
            rw [h4] at cv hok
            have hbd := hB (by rw [hok]; simp)
            repeat' (first | (apply AOps.nil; try simp only [List.nil_append, List.cons_append, List.set_cons_zero, List.set_cons_succ, List.length_cons, List.length_nil, Nat.reduceAdd, AV.sh, AV.sh1, AV.sh0, AO.sh, List.map_cons, List.map_nil, Nat.zero_add, Nat.add_zero, setAll]) | (apply w_move; exact rfl; exact rfl) | (apply w_assign; exact rfl; exact rfl) | apply AWp.seq | apply AWp.region | (apply AWp.condT; exact rfl) | apply AWp.ret | (apply w_pickF; exact rfl; exact rfl; exact rfl) | (apply w_call (c1); exact rfl; exact rfl; focus ((repeat (first | exact im_nil | refine im_cons rfl (.val _) ?_)); done)) | (apply w_call (c2); exact rfl; exact rfl; focus ((repeat (first | exact im_nil | refine im_cons rfl (.val _) ?_)); done)) | (apply w_call (c3); exact rfl; exact rfl; focus ((repeat (first | exact im_nil | refine im_cons rfl (.val _) ?_)); done)) | (apply w_call (cv); exact rfl; exact rfl; focus ((repeat (first | exact im_nil | refine im_cons rfl (.val _) ?_)); done)) | omega | ((first | apply w_sub | apply w_idx | apply w_ld | apply w_extv); iterate 3 exact rfl) | ((apply w_not); iterate 2 exact rfl) | (apply w_idxo; exact rfl; exact rfl; (exact .sli rfl); exact rfl) | (apply w_ldo; iterate 4 exact rfl) | (apply inI_of <;> omega))
            all_goals try (exfalso; omega)
            refine ⟨⟨145, [(2, .val (.slice none 0 0)), (3, .val (.slice none 0 0)), (4, .b false)]⟩, [], .tup [.val (.slice none 0 0), .val (.slice none 0 0), .b false], Turns.or ?_, ResIs.a3 rfl rfl rfl rfl, all_cons' trivial (all_cons' trivial (all_cons' trivial all_nil')), .inr ⟨hbd, rfl, rfl⟩, all_nil'⟩
            (apply Or.inl; refine ⟨lee rfl ?_, ?_, rfl, (by first | exact rfl | (simp [AO.lim, AV.lim, bL_lim]; done))⟩; (focus ((repeat (first | exact le_nil | refine le_eq rfl rfl ?_)); done)); (focus ((repeat (first | exact lo_nil | refine lo_eq rfl ?_)); done)))
          | true =>
            rw [h4] at cv hok
            have hr4 := of_decide_eq_true h4
            have hI3 := hI2 (by rw [hok]; rfl)
            rw [← e1 h1, ← e2 h2, ← e3 h3] at hI3
            repeat' (first | (apply AOps.nil; try simp only [List.nil_append, List.cons_append, List.set_cons_zero, List.set_cons_succ, List.length_cons, List.length_nil, Nat.reduceAdd, AV.sh, AV.sh1, AV.sh0, AO.sh, List.map_cons, List.map_nil, Nat.zero_add, Nat.add_zero, setAll]) | (apply w_move; exact rfl; exact rfl) | (apply w_assign; exact rfl; exact rfl) | apply AWp.seq | apply AWp.region | (apply AWp.condF; exact rfl) | apply AWp.skip | (apply w_pickF; exact rfl; exact rfl; exact rfl) | (apply w_call (c1); exact rfl; exact rfl; focus ((repeat (first | exact im_nil | refine im_cons rfl (.val _) ?_)); done)) | (apply w_call (c2); exact rfl; exact rfl; focus ((repeat (first | exact im_nil | refine im_cons rfl (.val _) ?_)); done)) | (apply w_call (c3); exact rfl; exact rfl; focus ((repeat (first | exact im_nil | refine im_cons rfl (.val _) ?_)); done)) | (apply w_call (cv); exact rfl; exact rfl; focus ((repeat (first | exact im_nil | refine im_cons rfl (.val _) ?_)); done)) | omega | ((first | apply w_add | apply w_sub | apply w_idx | apply w_ld | apply w_extv); iterate 3 exact rfl) | ((apply w_not); iterate 2 exact rfl) | (apply w_idxo; exact rfl; exact rfl; (exact .sli rfl); exact rfl) | (apply w_ldo; iterate 4 exact rfl) | (apply inI_of <;> omega))
            all_goals try (exfalso; omega)
            exact ⟨(k + 1, tmV P (geti f (u.toNat : Nat)), tmV R (geti f (u.toNat : Nat)) - tmV P (geti g (u.toNat : Nat))), ⟨by simp only; omega, hI3, b3, hr4⟩, by simp only; omega, ⟨lee rfl (by (repeat (first | exact le_nil | refine le_eq rfl rfl ?_))), by (repeat (first | exact lo_nil | refine lo_eq rfl ?_)), rfl, (by first | exact rfl | (simp [AO.lim, AV.lim, bL_lim]; done))⟩⟩
      · have ek : k = nv.length := by omega
        subst ek
        have hFG := hfin P R hI
        have hp2 := hput P R hFG hP hR
        unfold inM at hP hR
        repeat' (first | (apply AOps.nil; try simp only [List.nil_append, List.cons_append, List.set_cons_zero, List.set_cons_succ, List.length_cons, List.length_nil, Nat.reduceAdd, AV.sh, AV.sh1, AV.sh0, AO.sh, List.map_cons, List.map_nil, Nat.zero_add, Nat.add_zero, setAll]) | (apply w_move; exact rfl; exact rfl) | (apply w_assign; exact rfl; exact rfl) | apply AWp.seq | apply AWp.region | ((apply AWp.condP; exact rfl) <;> intro h) | apply AWp.block | apply AWp.exit | apply AWp.skip | (apply w_len; exact rfl; exact rfl; first | exact .ints _ | exact .intss _ | exact .sli rfl | exact .sls rfl | exact .slr rfl | exact .orow rfl | exact .nil) | omega | ((first | apply w_lss | apply w_sub | apply w_idx); iterate 3 exact rfl) | (apply w_idxo; exact rfl; exact rfl; (exact .sli rfl); exact rfl) | (apply w_sti; exact rfl; exact rfl; rotate_left 1; exact rfl; rotate_left 2) | (apply inI_of <;> omega))
        exact ⟨(s, f.set v.toNat R, g.set v.toNat P), hp2, by simp only; omega, ⟨lee rfl (by (repeat (first | exact le_nil | refine le_eq rfl rfl ?_))), by (repeat (first | exact lo_nil | refine lo_eq rfl ?_)), rfl, (by first | exact rfl | (simp [AO.lim, AV.lim, bL_lim]; done))⟩⟩
    · have ejx : ¬ jx = i := fun hh => hr (jx2.1 hh)
      have hsk := hO.skip hF hi hr
      repeat' (first | (apply AOps.nil; try simp only [List.nil_append, List.cons_append, List.set_cons_zero, List.set_cons_succ, List.length_cons, List.length_nil, Nat.reduceAdd, AV.sh, AV.sh1, AV.sh0, AO.sh, List.map_cons, List.map_nil, Nat.zero_add, Nat.add_zero, setAll]) | (apply w_move; exact rfl; exact rfl) | (apply w_assign; exact rfl; exact rfl) | apply AWp.seq | apply AWp.region | ((apply AWp.condP; exact rfl) <;> intro h) | apply AWp.block | apply AWp.ret | apply AWp.exit | apply AWp.skip | (apply w_call (hix); exact rfl; exact rfl; focus ((repeat (first | exact im_nil | refine im_cons rfl (.val _) ?_ | refine im_cons rfl (.sli rfl) ?_)); done)) | omega | ((first | apply w_lss | apply w_neq | apply w_add | apply w_idx | apply w_ld); iterate 3 exact rfl) | (apply w_idxo; exact rfl; exact rfl; (exact .sli rfl); exact rfl) | (apply w_ldo; iterate 4 exact rfl) | (apply inI_of <;> omega))
      all_goals try (exfalso; omega)
      exact ⟨(i + 1, f0, h0), ⟨by simp only; omega, hsk⟩, by simp only; omega, ⟨lee rfl (by (repeat (first | exact le_nil | refine le_eq rfl rfl ?_))), by (repeat (first | exact lo_nil | refine lo_eq rfl ?_)), rfl, (by first | exact rfl | (simp [AO.lim, AV.lim, bL_lim]; done))⟩⟩
  · have ei : i = W.length := by omega
    subst ei
    obtain ⟨q1, q2, q3⟩ := hO.fin hF
    repeat' (first | (apply AOps.nil; try simp only [List.nil_append, List.cons_append, List.set_cons_zero, List.set_cons_succ, List.length_cons, List.length_nil, Nat.reduceAdd, AV.sh, AV.sh1, AV.sh0, AO.sh, List.map_cons, List.map_nil, Nat.zero_add, Nat.add_zero, setAll]) | (apply w_move; exact rfl; exact rfl) | (apply w_assign; exact rfl; exact rfl) | apply AWp.seq | apply AWp.region | ((apply AWp.condP; exact rfl) <;> intro h) | apply AWp.block | apply AWp.ret | apply AWp.exit | apply AWp.skip | omega | ((apply w_lss); iterate 3 exact rfl))
    refine ⟨⟨145, [(2, .own 1), (3, .own 2), (4, .b true)]⟩, [.sli 2 f0, .sli 2 h0], .tup [.own 0, .own 1, .b true], Turns.or ?_, ResIs.a3 rfl rfl rfl rfl, all_cons' trivial (all_cons' trivial (all_cons' trivial all_nil')), .inl ⟨q1, rfl, by rw [q2, q3]⟩, all_cons' trivial (all_cons' trivial all_nil')⟩
    (apply Or.inr; refine ⟨[0, 2, 3], ⟨by decide, fun x hx => Nat.lt_of_lt_of_le ((by decide : ∀ x ∈ ([0, 2, 3] : List Nat), x < 4) x hx) (Nat.le_of_ble_eq_true rfl)⟩, lee rfl ?_, ?_, rfl, (by first | exact rfl | (simp [AO.lim, AV.lim, bL_lim]; done))⟩; (focus ((repeat (first | exact le_nil | refine le_eq rfl rfl ?_)); done)); (focus ((repeat (first | exact lo_nil | refine lo_eq rfl ?_)); done)))
end Go.Proofs.Ythjkpmjdkcainaa
/-
  Whether a graph is one, walked: the reference. No condition on the graph.
-/
namespace Go.Proofs.Ythjkpmjdkcainaa
open Go Go.RowKit
attribute [local irreducible] AWp AOps ResIs Ret1 QOp LOp COp AFnV AFn Imms LeE LeO
set_option maxHeartbeats 1000000
set_option linter.unusedSimpArgs false
set_option linter.unusedVariables false

def mgR : List Int → List (List Int) → List Int
  | L, [] => L
  | L, e :: E => mgR (mgL L (geti L (geti e 0)) (geti L (geti e 1))) E
theorem mgR_app : ∀ (A B : List (List Int)) (L : List Int), mgR L (A ++ B) = mgR (mgR L A) B
  | [], _, _ => rfl
  | _ :: A, B, L => mgR_app A B _
theorem mgR_len : ∀ (A : List (List Int)) (L : List Int), (mgR L A).length = L.length
  | [], _ => rfl
  | _ :: A, L => by rw [mgR, mgR_len A, mgL_len]
theorem effL_app : ∀ (A B : List (List Int)) (L : List Int), effL L (A ++ B) ↔ effL L A ∧ effL (mgR L A) B
  | [], _, _ => by simp [effL, mgR]
  | e :: A, B, L => by
    rw [List.cons_append, effL, effL, mgR, effL_app A B, and_assoc]
theorem mgR_rng {n : Nat} : ∀ {A : List (List Int)} {L : List Int}, L.length = n → (∀ x ∈ L, 0 ≤ x ∧ x < n) → (∀ e ∈ A, EIn n e) → ∀ x ∈ mgR L A, 0 ≤ x ∧ x < n
  | [], L, _, h, _ => h
  | e :: A, L, hl, h, hA => by
    obtain ⟨_, e2, e3, e4⟩ := hA e (by simp)
    rw [mgR]
    refine mgR_rng (by rw [mgL_len]; exact hl) (fun x hx => ?_) fun f hf => hA f (by simp [hf])
    unfold mgL at hx
    obtain ⟨y, hy, rfl⟩ := List.mem_map.1 hx
    split
    · exact h _ (geti_mem e2 (by omega))
    · exact h y hy
theorem idL_rng (n : Nat) : ∀ x ∈ idL n, 0 ≤ x ∧ x < n := fun x hx => by
  unfold idL at hx
  obtain ⟨k, hk, rfl⟩ := List.mem_map.1 hx
  have := List.mem_range.1 hk
  omega
theorem idL_succ (n : Nat) : idL (n + 1) = idL n ++ [(n : Int)] := by unfold idL; rw [List.range_succ, List.map_append]; rfl
theorem lessLx (a b : List Int) : less2 a b = true ↔ lx a b := by unfold less2 lx; exact decide_eq_true_iff

set_option maxHeartbeats 32000000 in
theorem l11Is_c (W : List Int) (E : List (List Int)) : AFnV Try.prog 23 [.agg [.ints W, .intss E]] (.bool (gok W E)) := by
  (refine AFnV.start Try.func23 Try.ntmps23 rfl (by kernel_rfl) fun hk => ?_; simp only [Env.start, enumF, List.length_cons, List.length_nil, Nat.reduceAdd, Nat.reduceSub, List.cons_append, List.nil_append])
  by_cases c0 : 1 ≤ W.length ∧ W.length ≤ 40
  case neg =>
    have hno : gok W E = false := gok_f fun h => c0 h.n
    repeat' (first | (apply AOps.nil; try simp only [List.nil_append, List.cons_append, List.set_cons_zero, List.set_cons_succ, List.length_cons, List.length_nil, Nat.reduceAdd, AV.sh, AV.sh1, AV.sh0, AO.sh, List.map_cons, List.map_nil, Nat.zero_add, Nat.add_zero, setAll]) | ((apply AOps.splitP; exact rfl; exact rfl) <;> intro h) | (apply w_move; exact rfl; exact rfl) | (apply w_assign; exact rfl; exact rfl) | apply AWp.seq | apply AWp.region | ((apply AWp.condP; exact rfl) <;> intro h) | (apply AWp.condT; exact rfl) | apply AWp.block | apply AWp.ret | apply AWp.skip | (apply w_skip; exact rfl) | (apply w_pickT; exact rfl; exact rfl; exact rfl) | (apply w_pickF; exact rfl; exact rfl; exact rfl) | (apply w_len; exact rfl; exact rfl; first | exact .ints _ | exact .intss _ | exact .sli rfl | exact .sls rfl | exact .slr rfl | exact .orow rfl | exact .nil) | omega | ((first | apply w_lss | apply w_gtr | apply w_ld | apply w_fa); iterate 3 exact rfl) | ((apply w_boxa); iterate 2 exact rfl) | (apply w_ldb; iterate 5 exact rfl))
    all_goals try (exfalso; omega)
    all_goals try exact .bool Try.results23 rfl hno.symm
  obtain ⟨c1, c2⟩ := c0
  repeat' (first | (apply AOps.nil; try simp only [List.nil_append, List.cons_append, List.set_cons_zero, List.set_cons_succ, List.length_cons, List.length_nil, Nat.reduceAdd, AV.sh, AV.sh1, AV.sh0, AO.sh, List.map_cons, List.map_nil, Nat.zero_add, Nat.add_zero, setAll]) | ((apply AOps.splitP; exact rfl; exact rfl) <;> intro h) | (apply w_move; exact rfl; exact rfl) | (apply w_assign; exact rfl; exact rfl) | apply AWp.seq | apply AWp.region | ((apply AWp.condP; exact rfl) <;> intro h) | (apply AWp.condT; exact rfl) | apply AWp.block | apply AWp.ret | apply AWp.skip | (apply w_skip; exact rfl) | (apply w_pickT; exact rfl; exact rfl; exact rfl) | (apply w_pickF; exact rfl; exact rfl; exact rfl) | (apply w_len; exact rfl; exact rfl; first | exact .ints _ | exact .intss _ | exact .sli rfl | exact .sls rfl | exact .slr rfl | exact .orow rfl | exact .nil) | omega | ((first | apply w_lss | apply w_gtr | apply w_ld | apply w_fa); iterate 3 exact rfl) | ((apply w_boxa); iterate 2 exact rfl) | (apply w_ldb; iterate 5 exact rfl))
  refine AWp.loop (ι := Nat) (fun i => ⟨133, [(1, .optr 0 0), (3, .i W.length), (4, .i i)]⟩) (fun _ => [.bx 27 [.ints W, .intss E]]) (fun i => i ≤ W.length ∧ withinL (W.take i) (-1000) 1000 = true) (fun i => W.length - i) 0 ⟨by omega, rfl⟩ ⟨lee rfl (by (repeat (first | exact le_nil | refine le_eq rfl rfl ?_))), by (repeat (first | exact lo_nil | refine lo_eq rfl ?_)), rfl, rfl⟩ ?_
  rintro i ⟨i0, i1⟩
  by_cases hi : i < W.length
  · have hin := l01In_c (geti W (i : Nat)) (-1000) 1000
    have hst := withinL_snoc W (-1000) 1000 (i : Nat) (by omega) (by omega)
    rw [show ((i : Nat) : Int).toNat = i from rfl, show (((i : Nat) : Int) + 1).toNat = i + 1 from rfl, i1, Bool.true_and] at hst
    cases hc : decide (-1000 ≤ geti W (i : Nat) ∧ geti W (i : Nat) ≤ 1000) with
    | true =>
      rw [hc] at hin hst
      repeat' (first | (apply AOps.nil; try simp only [List.nil_append, List.cons_append, List.set_cons_zero, List.set_cons_succ, List.length_cons, List.length_nil, Nat.reduceAdd, AV.sh, AV.sh1, AV.sh0, AO.sh, List.map_cons, List.map_nil, Nat.zero_add, Nat.add_zero, setAll]) | (apply w_move; exact rfl; exact rfl) | (apply w_assign; exact rfl; exact rfl) | apply AWp.seq | apply AWp.region | ((apply AWp.condP; exact rfl) <;> intro h) | (apply AWp.condF; exact rfl) | apply AWp.block | apply AWp.exit | apply AWp.skip | (apply w_len; exact rfl; exact rfl; first | exact .ints _ | exact .intss _ | exact .sli rfl | exact .sls rfl | exact .slr rfl | exact .orow rfl | exact .nil) | (apply w_call (hin); exact rfl; exact rfl; focus ((repeat (first | exact im_nil | refine im_cons rfl (.val _) ?_)); done)) | omega | ((first | apply w_lss | apply w_add | apply w_idx | apply w_ld | apply w_fa); iterate 3 exact rfl) | ((apply w_not); iterate 2 exact rfl) | (apply w_ldb; iterate 5 exact rfl) | (apply inI_of <;> omega))
      exact ⟨i + 1, ⟨by omega, hst⟩, by omega, ⟨lee rfl (by (repeat (first | exact le_nil | refine le_eq rfl rfl ?_))), by (repeat (first | exact lo_nil | refine lo_eq rfl ?_)), rfl, rfl⟩⟩
    | false =>
      rw [hc] at hin
      have hno : gok W E = false := gok_f fun h => by
        have := within_geti h.w (i : Nat)
        exact (of_decide_eq_false hc) this
      repeat' (first | (apply AOps.nil; try simp only [List.nil_append, List.cons_append, List.set_cons_zero, List.set_cons_succ, List.length_cons, List.length_nil, Nat.reduceAdd, AV.sh, AV.sh1, AV.sh0, AO.sh, List.map_cons, List.map_nil, Nat.zero_add, Nat.add_zero, setAll]) | (apply w_move; exact rfl; exact rfl) | (apply w_assign; exact rfl; exact rfl) | apply AWp.seq | apply AWp.region | ((apply AWp.condP; exact rfl) <;> intro h) | (apply AWp.condT; exact rfl) | apply AWp.block | apply AWp.ret | apply AWp.exit | apply AWp.skip | (apply w_len; exact rfl; exact rfl; first | exact .ints _ | exact .intss _ | exact .sli rfl | exact .sls rfl | exact .slr rfl | exact .orow rfl | exact .nil) | (apply w_call (hin); exact rfl; exact rfl; focus ((repeat (first | exact im_nil | refine im_cons rfl (.val _) ?_)); done)) | omega | ((first | apply w_lss | apply w_idx | apply w_ld | apply w_fa); iterate 3 exact rfl) | ((apply w_not); iterate 2 exact rfl) | (apply w_ldb; iterate 5 exact rfl))
      all_goals exact .bool Try.results23 rfl hno.symm
  have ei : i = W.length := by omega
  subst ei
  rw [List.take_length] at i1
  repeat' (first | (apply AOps.nil; try simp only [List.nil_append, List.cons_append, List.set_cons_zero, List.set_cons_succ, List.length_cons, List.length_nil, Nat.reduceAdd, AV.sh, AV.sh1, AV.sh0, AO.sh, List.map_cons, List.map_nil, Nat.zero_add, Nat.add_zero, setAll]) | (apply w_move; exact rfl; exact rfl) | (apply w_assign; exact rfl; exact rfl) | apply AWp.seq | apply AWp.region | ((apply AWp.condP; exact rfl) <;> intro h) | apply AWp.block | apply AWp.exit | apply AWp.skip | (apply w_len; exact rfl; exact rfl; first | exact .ints _ | exact .intss _ | exact .sli rfl | exact .sls rfl | exact .slr rfl | exact .orow rfl | exact .nil) | omega | ((first | apply w_lss | apply w_ld | apply w_fa); iterate 3 exact rfl) | (apply w_ldb; iterate 5 exact rfl) | (apply w_bs0; iterate 1 exact rfl))
  refine AWp.loop (ι := Nat) (fun i => ⟨133, [(1, .optr 0 0), (3, .i W.length), (5, .own 1), (6, .i i)]⟩) (fun i => [.bx 27 [.ints W, .intss E], .sli 2 (idL i)]) (fun i => i ≤ W.length) (fun i => W.length - i) 0 (by omega) ⟨lee rfl (by (repeat (first | exact le_nil | refine le_eq rfl rfl ?_))), by (repeat (first | exact lo_nil | refine lo_eq rfl ?_)), rfl, rfl⟩ ?_
  intro i i0
  have il := idL_len i
  have is := idL_succ i
  by_cases hi : i < W.length
  · have hbl : ((idL i).length + [(i : Int)].length) * 8 ≤ 140737488355328 := by
      simp only [List.length_cons, List.length_nil]; omega
    generalize idL i = L at *
    repeat' (first | (apply AOps.nil; try simp only [List.nil_append, List.cons_append, List.set_cons_zero, List.set_cons_succ, List.length_cons, List.length_nil, Nat.reduceAdd, AV.sh, AV.sh1, AV.sh0, AO.sh, List.map_cons, List.map_nil, Nat.zero_add, Nat.add_zero, setAll]) | (apply w_move; exact rfl; exact rfl) | (apply w_assign; exact rfl; exact rfl) | apply AWp.seq | apply AWp.region | ((apply AWp.condP; exact rfl) <;> intro h) | apply AWp.block | apply AWp.exit | apply AWp.skip | omega | ((first | apply w_lss | apply w_add); iterate 3 exact rfl) | ((apply w_bs1); iterate 2 exact rfl) | (apply w_app; exact rfl; exact rfl; exact rfl; exact rfl; (exact .sli rfl); rotate_left 1; simp only [Env.mp, List.map_cons, List.map_nil, List.set_cons_zero, List.set_cons_succ, AV.kill, AV.kill1, AO.kill, AV.noRow, AV.noRow1, AO.via, reduceIte, Nat.reduceEqDiff, Nat.reduceLT, Env.up, Nat.zero_ne_one, Nat.one_ne_zero, Nat.reduceAdd, List.cons_append, List.nil_append]; rotate_left 1) | (apply inI_of <;> omega))
    exact ⟨i + 1, by omega, by omega, ⟨lee rfl (by (repeat (first | exact le_nil | refine le_eq rfl rfl ?_))), by (repeat (first | exact lo_nil | refine lo_eq rfl ?_ | refine lo_eq (congrArg (AO.sli _) (is.symm)) ?_)), rfl, rfl⟩⟩
  have ei : i = W.length := by omega
  subst ei
  repeat' (first | (apply AOps.nil; try simp only [List.nil_append, List.cons_append, List.set_cons_zero, List.set_cons_succ, List.length_cons, List.length_nil, Nat.reduceAdd, AV.sh, AV.sh1, AV.sh0, AO.sh, List.map_cons, List.map_nil, Nat.zero_add, Nat.add_zero, setAll]) | (apply w_move; exact rfl; exact rfl) | (apply w_assign; exact rfl; exact rfl) | apply AWp.seq | apply AWp.region | ((apply AWp.condP; exact rfl) <;> intro h) | apply AWp.block | apply AWp.exit | apply AWp.skip | omega | ((apply w_lss); iterate 3 exact rfl))
  refine AWp.loop (ι := Nat) (fun k => ⟨133, [(1, .optr 0 0), (3, .i W.length), (5, .own 1), (7, .i k)]⟩) (fun k => [.bx 27 [.ints W, .intss E], .sli 2 (mgR (idL W.length) (E.take k))]) (fun k => k ≤ E.length ∧ (∀ e ∈ E.take k, EIn W.length e) ∧ (E.take k).Pairwise lx ∧ effL (idL W.length) (E.take k)) (fun k => E.length - k) 0 ⟨by omega, by simp, by simp, trivial⟩ ⟨lee rfl (by (repeat (first | exact le_nil | refine le_eq rfl rfl ?_))), by (repeat (first | exact lo_nil | refine lo_eq rfl ?_)), rfl, rfl⟩ ?_
  rintro k ⟨k0, k1, k2, k3⟩
  by_cases hk : k < E.length
  · have hkn : k + 1 ≤ W.length := by
      obtain ⟨_, m, _, _, m0, _, hm⟩ := lab_max (n := W.length) (E := E.take k) (by omega) k1
      have := hm.2 k3
      rw [List.length_take] at this; omega
    have hsn := pw_snoc hk
    have hrow : ∀ f ∈ E.take (k + 1), EIn W.length f ∨ f = gets E (k : Nat) := fun f hf => by
      rw [List.take_succ_eq_append_getElem hk, gets_eq hk] at hf
      rcases List.mem_append.1 hf with hf | hf
      · exact .inl (k1 f hf)
      · exact .inr (List.mem_singleton.1 hf)
    have hmem : gets E (k : Nat) ∈ E := gets_mem (by omega) (by omega)
    have hml : (mgR (idL W.length) (E.take k)).length = W.length := by rw [mgR_len, idL_len]
    have hmr := mgR_rng (idL_len W.length) (idL_rng W.length) k1
    have het := effL_app (E.take k) [gets E (k : Nat)] (idL W.length)
    have hmt := mgR_app (E.take k) [gets E (k : Nat)] (idL W.length)
    have ets : E.take k ++ [gets E (k : Nat)] = E.take (k + 1) := by rw [List.take_succ_eq_append_getElem hk, gets_eq hk]
    rw [ets] at het hmt
    rw [mgR, mgR] at hmt
    have hi0 := l01In_c (geti (gets E (k : Nat)) 0) 0 ((W.length : Int) - 1)
    have hi1 := l01In_c (geti (gets E (k : Nat)) 1) 0 ((W.length : Int) - 1)
    by_cases he : EIn W.length (gets E (k : Nat))
    · obtain ⟨e1, e2, e3, e4⟩ := id he
      rw [decide_eq_true (by omega)] at hi0 hi1
      have hdp : ∀ h : GOk W E, effL (idL W.length) (E.take (k + 1)) := fun h => by
        have := h.eff
        rw [← List.take_append_drop (k + 1) E, effL_app] at this
        exact this.1
      have hrw : ∀ f ∈ E.take (k + 1), EIn W.length f := fun f hf => (hrow f hf).elim id fun h => h ▸ he
      -- the order
      by_cases hord : k = 0 ∨ lx (gets E ((k - 1 : Nat) : Int)) (gets E (k : Nat))
      case neg =>
        have hz : ¬ k = 0 := fun h => hord (.inl h)
        have hp1 : gets E (((k : Nat) : Int) - 1) = gets E ((k - 1 : Nat) : Int) := by congr 1; omega
        have hm1 : gets E ((k - 1 : Nat) : Int) ∈ E.take k := by
          rw [← gets_eq (by omega)]
          exact List.mem_take_iff_getElem.2 ⟨k - 1, by omega, rfl⟩
        have hcm := l01Less_c (gets E ((k - 1 : Nat) : Int)) (gets E (k : Nat)) (k1 _ hm1).1 e1
        have hlf : less2 (gets E ((k - 1 : Nat) : Int)) (gets E (k : Nat)) = false := by
          rw [Bool.eq_false_iff]; exact fun h => hord (.inr ((lessLx _ _).1 h))
        rw [hlf, ← hp1] at hcm
        have hno : gok W E = false := gok_f fun h => hord (hsn.1 (pw_take h.srt (k + 1))).2
        generalize mgR (idL W.length) (E.take k) = L at *
        repeat' (first | (apply AOps.nil; try simp only [List.nil_append, List.cons_append, List.set_cons_zero, List.set_cons_succ, List.length_cons, List.length_nil, Nat.reduceAdd, AV.sh, AV.sh1, AV.sh0, AO.sh, List.map_cons, List.map_nil, Nat.zero_add, Nat.add_zero, setAll]) | (apply w_move; exact rfl; exact rfl) | (apply w_assign; exact rfl; exact rfl) | apply AWp.seq | apply AWp.region | ((apply AWp.condP; exact rfl) <;> intro h) | apply AWp.block | apply AWp.ret | apply AWp.exit | apply AWp.skip | (apply w_len; exact rfl; exact rfl; first | exact .ints _ | exact .intss _ | exact .sli rfl | exact .sls rfl | exact .slr rfl | exact .orow rfl | exact .nil) | omega | ((first | apply w_lss | apply w_idx | apply w_ld | apply w_fa); iterate 3 exact rfl) | ((first | apply w_idxs | apply w_lds); iterate 3 exact rfl) | (apply w_ldb; iterate 5 exact rfl))
        refine AWp.regionQ (by kernel_rfl) (by kernel_rfl) ?_
        repeat' (first | (apply AOps.nil; try simp only [List.nil_append, List.cons_append, List.set_cons_zero, List.set_cons_succ, List.length_cons, List.length_nil, Nat.reduceAdd, AV.sh, AV.sh1, AV.sh0, AO.sh, List.map_cons, List.map_nil, Nat.zero_add, Nat.add_zero, setAll]) | ((apply AOps.splitP; exact rfl; exact rfl) <;> intro h) | (apply w_move; exact rfl; exact rfl) | (apply w_assign; exact rfl; exact rfl) | apply AWp.seq | apply AWp.region | (apply AWp.condT; exact rfl) | (apply AWp.condF; exact rfl) | apply AWp.ret | apply AWp.skip | (apply w_skip; exact rfl) | (apply w_pickT; exact rfl; exact rfl; exact rfl) | (apply w_pickF; exact rfl; exact rfl; exact rfl) | (apply w_len; exact rfl; exact rfl; first | exact .ints _ | exact .intss _ | exact .sli rfl | exact .sls rfl | exact .slr rfl | exact .orow rfl | exact .nil) | (apply w_call (hi0); exact rfl; exact rfl; focus ((repeat (first | exact im_nil | refine im_cons rfl (.val _) ?_)); done)) | (apply w_call (hi1); exact rfl; exact rfl; focus ((repeat (first | exact im_nil | refine im_cons rfl (.val _) ?_)); done)) | (apply w_call (hcm); exact rfl; exact rfl; focus ((repeat (first | exact im_nil | refine im_cons rfl (.ints _) ?_)); done)) | omega | ((first | apply w_gtr | apply w_geq | apply w_neq | apply w_sub | apply w_idx | apply w_ld | apply w_fa); iterate 3 exact rfl) | ((first | apply w_idxs | apply w_lds); iterate 3 exact rfl) | ((apply w_not); iterate 2 exact rfl) | (apply w_ldb; iterate 5 exact rfl) | (apply inI_of <;> omega))
        all_goals try (exfalso; omega)
        all_goals try exact .bool Try.results23 rfl hno.symm
      have hpw := hsn.2 ⟨k2, hord⟩
      have hb0 := hmr _ (geti_mem (xs := mgR (idL W.length) (E.take k)) (i := geti (gets E (k : Nat)) 0) e2 (by omega))
      have hb1 := hmr _ (geti_mem (xs := mgR (idL W.length) (E.take k)) (i := geti (gets E (k : Nat)) 1) (by omega) (by omega))
      have hcm : k = 0 ∨ AFnV Try.prog 37 [.ints (gets E (((k : Nat) : Int) - 1)), .ints (gets E (k : Nat))] (.bool true) := by
        by_cases hz : k = 0
        · exact .inl hz
        · right
          have hp1 : gets E (((k : Nat) : Int) - 1) = gets E ((k - 1 : Nat) : Int) := by congr 1; omega
          have hm1 : gets E ((k - 1 : Nat) : Int) ∈ E.take k := by
            rw [← gets_eq (by omega)]
            exact List.mem_take_iff_getElem.2 ⟨k - 1, by omega, rfl⟩
          have hcm := l01Less_c (gets E ((k - 1 : Nat) : Int)) (gets E (k : Nat)) (k1 _ hm1).1 e1
          rw [(lessLx _ _).2 (hord.resolve_left hz), ← hp1] at hcm
          exact hcm
      by_cases hab : geti (mgR (idL W.length) (E.take k)) (geti (gets E (k : Nat)) 0) = geti (mgR (idL W.length) (E.take k)) (geti (gets E (k : Nat)) 1)
      · have hno : gok W E = false := gok_f fun h => by
          have := ((het).1 (hdp h)).2
          rw [effL] at this
          exact this.1 hab
        generalize mgR (idL W.length) (E.take k) = L at *
        repeat' (first | (apply AOps.nil; try simp only [List.nil_append, List.cons_append, List.set_cons_zero, List.set_cons_succ, List.length_cons, List.length_nil, Nat.reduceAdd, AV.sh, AV.sh1, AV.sh0, AO.sh, List.map_cons, List.map_nil, Nat.zero_add, Nat.add_zero, setAll]) | (apply w_move; exact rfl; exact rfl) | (apply w_assign; exact rfl; exact rfl) | apply AWp.seq | apply AWp.region | ((apply AWp.condP; exact rfl) <;> intro h) | apply AWp.block | apply AWp.ret | apply AWp.exit | apply AWp.skip | (apply w_len; exact rfl; exact rfl; first | exact .ints _ | exact .intss _ | exact .sli rfl | exact .sls rfl | exact .slr rfl | exact .orow rfl | exact .nil) | omega | ((first | apply w_lss | apply w_idx | apply w_ld | apply w_fa); iterate 3 exact rfl) | ((first | apply w_idxs | apply w_lds); iterate 3 exact rfl) | (apply w_ldb; iterate 5 exact rfl))
        refine AWp.regionG [] (by kernel_rfl) (envC := ⟨133, [(1, .optr 0 0), (3, .i W.length), (5, .own 1), (7, .i k), (8, .ints (gets E (k : Nat))), (101, .b false)]⟩) (osC := [.bx 27 [.ints W, .intss E], .sli 2 L]) rfl rfl ?_ ?_
        · rcases hcm with hz | hcm
          · subst hz
            repeat' (first | (apply AOps.nil; try simp only [List.nil_append, List.cons_append, List.set_cons_zero, List.set_cons_succ, List.length_cons, List.length_nil, Nat.reduceAdd, AV.sh, AV.sh1, AV.sh0, AO.sh, List.map_cons, List.map_nil, Nat.zero_add, Nat.add_zero, setAll]) | ((apply AOps.splitP; exact rfl; exact rfl) <;> intro h) | (apply w_move; exact rfl; exact rfl) | (apply w_skip; exact rfl) | (apply w_pickT; exact rfl; exact rfl; exact rfl) | (apply w_pickF; exact rfl; exact rfl; exact rfl) | (apply w_len; exact rfl; exact rfl; first | exact .ints _ | exact .intss _ | exact .sli rfl | exact .sls rfl | exact .slr rfl | exact .orow rfl | exact .nil) | apply AllOfG.nil | (apply AllOfG.consS; exact rfl; exact rfl) | (apply AAnyG.takeW; exact rfl; exact rfl; kernel_rfl; kernel_rfl) | (apply AAnyG.takeL; exact rfl; exact rfl; kernel_rfl) | (apply AAnyG.all; exact rfl) | (apply AAnyG.done; exact rfl) | (apply w_call (hi0); exact rfl; exact rfl; focus ((repeat (first | exact im_nil | refine im_cons rfl (.val _) ?_)); done)) | (apply w_call (hi1); exact rfl; exact rfl; focus ((repeat (first | exact im_nil | refine im_cons rfl (.val _) ?_)); done)) | omega | ((first | apply w_gtr | apply w_geq | apply w_neq | apply w_sub | apply w_idx | apply w_ld); iterate 3 exact rfl) | ((apply w_not); iterate 2 exact rfl) | (apply inI_of <;> omega))
            all_goals try (exfalso; omega)
            all_goals (apply Or.inl; refine ⟨lee rfl ?_, ?_, rfl, rfl⟩; (focus ((repeat (first | exact le_nil | refine le_eq rfl rfl ?_)); done)); (focus ((repeat (first | exact lo_nil | refine lo_eq rfl ?_)); done)))
          · repeat' (first | (apply AOps.nil; try simp only [List.nil_append, List.cons_append, List.set_cons_zero, List.set_cons_succ, List.length_cons, List.length_nil, Nat.reduceAdd, AV.sh, AV.sh1, AV.sh0, AO.sh, List.map_cons, List.map_nil, Nat.zero_add, Nat.add_zero, setAll]) | ((apply AOps.splitP; exact rfl; exact rfl) <;> intro h) | (apply w_move; exact rfl; exact rfl) | (apply w_skip; exact rfl) | (apply w_pickT; exact rfl; exact rfl; exact rfl) | (apply w_pickF; exact rfl; exact rfl; exact rfl) | (apply w_len; exact rfl; exact rfl; first | exact .ints _ | exact .intss _ | exact .sli rfl | exact .sls rfl | exact .slr rfl | exact .orow rfl | exact .nil) | apply AllOfG.nil | (apply AllOfG.consS; exact rfl; exact rfl) | (apply AAnyG.takeW; exact rfl; exact rfl; kernel_rfl; kernel_rfl) | (apply AAnyG.takeL; exact rfl; exact rfl; kernel_rfl) | (apply AAnyG.all; exact rfl) | (apply AAnyG.done; exact rfl) | (apply w_call (hi0); exact rfl; exact rfl; focus ((repeat (first | exact im_nil | refine im_cons rfl (.val _) ?_)); done)) | (apply w_call (hi1); exact rfl; exact rfl; focus ((repeat (first | exact im_nil | refine im_cons rfl (.val _) ?_)); done)) | (apply w_call (hcm); exact rfl; exact rfl; focus ((repeat (first | exact im_nil | refine im_cons rfl (.ints _) ?_)); done)) | omega | ((first | apply w_gtr | apply w_geq | apply w_neq | apply w_sub | apply w_idx | apply w_ld | apply w_fa); iterate 3 exact rfl) | ((first | apply w_idxs | apply w_lds); iterate 3 exact rfl) | ((apply w_not); iterate 2 exact rfl) | (apply w_ldb; iterate 5 exact rfl) | (apply inI_of <;> omega))
            all_goals try (exfalso; omega)
            all_goals (apply Or.inl; refine ⟨lee rfl ?_, ?_, rfl, rfl⟩; (focus ((repeat (first | exact le_nil | refine le_eq rfl rfl ?_)); done)); (focus ((repeat (first | exact lo_nil | refine lo_eq rfl ?_)); done)))
        clear hcm
        generalize hev : gets E (k : Nat) = e at *
        obtain ⟨a, ea⟩ : ∃ a, a = geti L (geti e 0) := ⟨_, rfl⟩
        obtain ⟨b, eb⟩ : ∃ b, b = geti L (geti e 1) := ⟨_, rfl⟩
        repeat' (first | apply AWp.seq | (apply AWp.condF; exact rfl) | apply AWp.skip)
        refine AWp.regionG [] (by kernel_rfl) (envC := ⟨133, [(1, .optr 0 0), (3, .i W.length), (5, .own 1), (7, .i k), (9, .i a), (10, .i b)]⟩) (osC := [.bx 27 [.ints W, .intss E], .sli 2 L]) rfl rfl ?_ ?_
        · rw [ea, eb]
          repeat' (first | (apply AOps.nil; try simp only [List.nil_append, List.cons_append, List.set_cons_zero, List.set_cons_succ, List.length_cons, List.length_nil, Nat.reduceAdd, AV.sh, AV.sh1, AV.sh0, AO.sh, List.map_cons, List.map_nil, Nat.zero_add, Nat.add_zero, setAll]) | (apply w_move; exact rfl; exact rfl) | (apply w_assign; exact rfl; exact rfl) | (apply AAnyG.takeW; exact rfl; exact rfl; kernel_rfl; kernel_rfl) | (apply AAnyG.takeL; exact rfl; exact rfl; kernel_rfl) | (apply AAnyG.done; exact rfl) | omega | ((first | apply w_idx | apply w_ld); iterate 3 exact rfl) | (apply w_idxo; exact rfl; exact rfl; (exact .sli rfl); exact rfl) | (apply w_ldo; iterate 4 exact rfl))
          all_goals (apply Or.inl; refine ⟨lee rfl ?_, ?_, rfl, rfl⟩; (focus ((repeat (first | exact le_nil | refine le_eq rfl rfl ?_)); done)); (focus ((repeat (first | exact lo_nil | refine lo_eq rfl ?_)); done)))
        rw [← ea, ← eb] at hab hmt
        rw [← ea] at hb0
        rw [← eb] at hb1
        clear ea eb
        repeat' (first | (apply AOps.nil; try simp only [List.nil_append, List.cons_append, List.set_cons_zero, List.set_cons_succ, List.length_cons, List.length_nil, Nat.reduceAdd, AV.sh, AV.sh1, AV.sh0, AO.sh, List.map_cons, List.map_nil, Nat.zero_add, Nat.add_zero, setAll]) | (apply w_move; exact rfl; exact rfl) | (apply w_assign; exact rfl; exact rfl) | apply AWp.seq | apply AWp.region | ((apply AWp.condP; exact rfl) <;> intro h) | apply AWp.block | apply AWp.ret | apply AWp.skip | omega | ((apply w_eql); iterate 3 exact rfl))
        all_goals try (exfalso; omega)
        all_goals try exact .bool Try.results23 rfl hno.symm
      · have hef : effL (idL W.length) (E.take (k + 1)) := het.2 ⟨k3, by rw [effL]; exact ⟨hab, trivial⟩⟩
        generalize mgR (idL W.length) (E.take k) = L at *
        repeat' (first | (apply AOps.nil; try simp only [List.nil_append, List.cons_append, List.set_cons_zero, List.set_cons_succ, List.length_cons, List.length_nil, Nat.reduceAdd, AV.sh, AV.sh1, AV.sh0, AO.sh, List.map_cons, List.map_nil, Nat.zero_add, Nat.add_zero, setAll]) | (apply w_move; exact rfl; exact rfl) | (apply w_assign; exact rfl; exact rfl) | apply AWp.seq | apply AWp.region | ((apply AWp.condP; exact rfl) <;> intro h) | apply AWp.block | apply AWp.ret | apply AWp.exit | apply AWp.skip | (apply w_len; exact rfl; exact rfl; first | exact .ints _ | exact .intss _ | exact .sli rfl | exact .sls rfl | exact .slr rfl | exact .orow rfl | exact .nil) | omega | ((first | apply w_lss | apply w_idx | apply w_ld | apply w_fa); iterate 3 exact rfl) | ((first | apply w_idxs | apply w_lds); iterate 3 exact rfl) | (apply w_ldb; iterate 5 exact rfl))
        refine AWp.regionG [] (by kernel_rfl) (envC := ⟨133, [(1, .optr 0 0), (3, .i W.length), (5, .own 1), (7, .i k), (8, .ints (gets E (k : Nat))), (101, .b false)]⟩) (osC := [.bx 27 [.ints W, .intss E], .sli 2 L]) rfl rfl ?_ ?_
        · rcases hcm with hz | hcm
          · subst hz
            repeat' (first | (apply AOps.nil; try simp only [List.nil_append, List.cons_append, List.set_cons_zero, List.set_cons_succ, List.length_cons, List.length_nil, Nat.reduceAdd, AV.sh, AV.sh1, AV.sh0, AO.sh, List.map_cons, List.map_nil, Nat.zero_add, Nat.add_zero, setAll]) | ((apply AOps.splitP; exact rfl; exact rfl) <;> intro h) | (apply w_move; exact rfl; exact rfl) | (apply w_skip; exact rfl) | (apply w_pickT; exact rfl; exact rfl; exact rfl) | (apply w_pickF; exact rfl; exact rfl; exact rfl) | (apply w_len; exact rfl; exact rfl; first | exact .ints _ | exact .intss _ | exact .sli rfl | exact .sls rfl | exact .slr rfl | exact .orow rfl | exact .nil) | apply AllOfG.nil | (apply AllOfG.consS; exact rfl; exact rfl) | (apply AAnyG.takeW; exact rfl; exact rfl; kernel_rfl; kernel_rfl) | (apply AAnyG.takeL; exact rfl; exact rfl; kernel_rfl) | (apply AAnyG.all; exact rfl) | (apply AAnyG.done; exact rfl) | (apply w_call (hi0); exact rfl; exact rfl; focus ((repeat (first | exact im_nil | refine im_cons rfl (.val _) ?_)); done)) | (apply w_call (hi1); exact rfl; exact rfl; focus ((repeat (first | exact im_nil | refine im_cons rfl (.val _) ?_)); done)) | omega | ((first | apply w_gtr | apply w_geq | apply w_neq | apply w_sub | apply w_idx | apply w_ld); iterate 3 exact rfl) | ((apply w_not); iterate 2 exact rfl) | (apply inI_of <;> omega))
            all_goals try (exfalso; omega)
            all_goals (apply Or.inl; refine ⟨lee rfl ?_, ?_, rfl, rfl⟩; (focus ((repeat (first | exact le_nil | refine le_eq rfl rfl ?_)); done)); (focus ((repeat (first | exact lo_nil | refine lo_eq rfl ?_)); done)))
          · repeat' (first | (apply AOps.nil; try simp only [List.nil_append, List.cons_append, List.set_cons_zero, List.set_cons_succ, List.length_cons, List.length_nil, Nat.reduceAdd, AV.sh, AV.sh1, AV.sh0, AO.sh, List.map_cons, List.map_nil, Nat.zero_add, Nat.add_zero, setAll]) | ((apply AOps.splitP; exact rfl; exact rfl) <;> intro h) | (apply w_move; exact rfl; exact rfl) | (apply w_skip; exact rfl) | (apply w_pickT; exact rfl; exact rfl; exact rfl) | (apply w_pickF; exact rfl; exact rfl; exact rfl) | (apply w_len; exact rfl; exact rfl; first | exact .ints _ | exact .intss _ | exact .sli rfl | exact .sls rfl | exact .slr rfl | exact .orow rfl | exact .nil) | apply AllOfG.nil | (apply AllOfG.consS; exact rfl; exact rfl) | (apply AAnyG.takeW; exact rfl; exact rfl; kernel_rfl; kernel_rfl) | (apply AAnyG.takeL; exact rfl; exact rfl; kernel_rfl) | (apply AAnyG.all; exact rfl) | (apply AAnyG.done; exact rfl) | (apply w_call (hi0); exact rfl; exact rfl; focus ((repeat (first | exact im_nil | refine im_cons rfl (.val _) ?_)); done)) | (apply w_call (hi1); exact rfl; exact rfl; focus ((repeat (first | exact im_nil | refine im_cons rfl (.val _) ?_)); done)) | (apply w_call (hcm); exact rfl; exact rfl; focus ((repeat (first | exact im_nil | refine im_cons rfl (.ints _) ?_)); done)) | omega | ((first | apply w_gtr | apply w_geq | apply w_neq | apply w_sub | apply w_idx | apply w_ld | apply w_fa); iterate 3 exact rfl) | ((first | apply w_idxs | apply w_lds); iterate 3 exact rfl) | ((apply w_not); iterate 2 exact rfl) | (apply w_ldb; iterate 5 exact rfl) | (apply inI_of <;> omega))
            all_goals try (exfalso; omega)
            all_goals (apply Or.inl; refine ⟨lee rfl ?_, ?_, rfl, rfl⟩; (focus ((repeat (first | exact le_nil | refine le_eq rfl rfl ?_)); done)); (focus ((repeat (first | exact lo_nil | refine lo_eq rfl ?_)); done)))
        clear hcm
        generalize hev : gets E (k : Nat) = e at *
        obtain ⟨a, ea⟩ : ∃ a, a = geti L (geti e 0) := ⟨_, rfl⟩
        obtain ⟨b, eb⟩ : ∃ b, b = geti L (geti e 1) := ⟨_, rfl⟩
        repeat' (first | apply AWp.seq | (apply AWp.condF; exact rfl) | apply AWp.skip)
        refine AWp.regionG [] (by kernel_rfl) (envC := ⟨133, [(1, .optr 0 0), (3, .i W.length), (5, .own 1), (7, .i k), (9, .i a), (10, .i b)]⟩) (osC := [.bx 27 [.ints W, .intss E], .sli 2 L]) rfl rfl ?_ ?_
        · rw [ea, eb]
          repeat' (first | (apply AOps.nil; try simp only [List.nil_append, List.cons_append, List.set_cons_zero, List.set_cons_succ, List.length_cons, List.length_nil, Nat.reduceAdd, AV.sh, AV.sh1, AV.sh0, AO.sh, List.map_cons, List.map_nil, Nat.zero_add, Nat.add_zero, setAll]) | (apply w_move; exact rfl; exact rfl) | (apply w_assign; exact rfl; exact rfl) | (apply AAnyG.takeW; exact rfl; exact rfl; kernel_rfl; kernel_rfl) | (apply AAnyG.takeL; exact rfl; exact rfl; kernel_rfl) | (apply AAnyG.done; exact rfl) | omega | ((first | apply w_idx | apply w_ld); iterate 3 exact rfl) | (apply w_idxo; exact rfl; exact rfl; (exact .sli rfl); exact rfl) | (apply w_ldo; iterate 4 exact rfl))
          all_goals (apply Or.inl; refine ⟨lee rfl ?_, ?_, rfl, rfl⟩; (focus ((repeat (first | exact le_nil | refine le_eq rfl rfl ?_)); done)); (focus ((repeat (first | exact lo_nil | refine lo_eq rfl ?_)); done)))
        rw [← ea, ← eb] at hab hmt
        rw [← ea] at hb0
        rw [← eb] at hb1
        clear ea eb
        repeat' (first | (apply AOps.nil; try simp only [List.nil_append, List.cons_append, List.set_cons_zero, List.set_cons_succ, List.length_cons, List.length_nil, Nat.reduceAdd, AV.sh, AV.sh1, AV.sh0, AO.sh, List.map_cons, List.map_nil, Nat.zero_add, Nat.add_zero, setAll]) | (apply w_move; exact rfl; exact rfl) | (apply w_assign; exact rfl; exact rfl) | apply AWp.seq | apply AWp.region | ((apply AWp.condP; exact rfl) <;> intro h) | apply AWp.block | apply AWp.ret | apply AWp.skip | omega | ((apply w_eql); iterate 3 exact rfl))
        all_goals try (exfalso; omega)
        refine AWp.loop (ι := Nat) (fun j => ⟨133, [(1, .optr 0 0), (3, .i W.length), (5, .own 1), (7, .i k), (9, .i a), (10, .i b), (11, .i j)]⟩) (fun j => [.bx 27 [.ints W, .intss E], .sli 2 (mgT L a b j)]) (fun j => j ≤ W.length) (fun j => W.length - j) 0 (by omega) ⟨lee rfl (by (repeat (first | exact le_nil | refine le_eq rfl rfl ?_))), by (repeat (first | exact lo_nil | refine lo_eq rfl ?_)), rfl, rfl⟩ ?_
        intro j j0
        have ml := mgT_len L a b j
        by_cases hj : j < W.length
        · have m1 := mgT_at (L := L) (a := a) (b := b) (i := j) (by omega)
          have m2 := mgT_eq (L := L) (a := a) (b := b) (i := j) (by omega)
          rw [← m1] at m2
          generalize mgT L a b j = M at *
          have ej : geti M ((((j : Nat) : Int)).toNat : Nat) = geti M (j : Nat) := by rw [Int.toNat_natCast]
          by_cases hc : geti M (j : Nat) = b
          · rw [if_pos hc] at m2
            have hc' := hc
            rw [← ej] at hc'
            repeat' (first | (apply AOps.nil; try simp only [List.nil_append, List.cons_append, List.set_cons_zero, List.set_cons_succ, List.length_cons, List.length_nil, Nat.reduceAdd, AV.sh, AV.sh1, AV.sh0, AO.sh, List.map_cons, List.map_nil, Nat.zero_add, Nat.add_zero, setAll]) | (apply w_move; exact rfl; exact rfl) | (apply w_assign; exact rfl; exact rfl) | apply AWp.seq | apply AWp.region | ((apply AWp.condP; exact rfl) <;> intro h) | apply AWp.block | apply AWp.exit | apply AWp.skip | (apply w_len; exact rfl; exact rfl; first | exact .ints _ | exact .intss _ | exact .sli rfl | exact .sls rfl | exact .slr rfl | exact .orow rfl | exact .nil) | omega | ((first | apply w_lss | apply w_eql | apply w_add | apply w_idx | apply w_ld); iterate 3 exact rfl) | (apply w_idxo; exact rfl; exact rfl; (exact .sli rfl); exact rfl) | (apply w_ldo; iterate 4 exact rfl) | (apply w_sti; exact rfl; exact rfl; rotate_left 1; exact rfl; rotate_left 2) | (apply inI_of <;> omega))
            all_goals try (exfalso; first | exact absurd hc' (by assumption) | exact absurd (by assumption) hc')
            exact ⟨j + 1, by omega, by omega, by rw [m2]; exact ⟨lee rfl (by (repeat (first | exact le_nil | refine le_eq rfl rfl ?_))), by (repeat (first | exact lo_nil | refine lo_eq rfl ?_)), rfl, rfl⟩⟩
          · rw [if_neg hc, set_same] at m2
            have hc' := hc
            rw [← ej] at hc'
            repeat' (first | (apply AOps.nil; try simp only [List.nil_append, List.cons_append, List.set_cons_zero, List.set_cons_succ, List.length_cons, List.length_nil, Nat.reduceAdd, AV.sh, AV.sh1, AV.sh0, AO.sh, List.map_cons, List.map_nil, Nat.zero_add, Nat.add_zero, setAll]) | (apply w_move; exact rfl; exact rfl) | (apply w_assign; exact rfl; exact rfl) | apply AWp.seq | apply AWp.region | ((apply AWp.condP; exact rfl) <;> intro h) | apply AWp.block | apply AWp.exit | apply AWp.skip | (apply w_len; exact rfl; exact rfl; first | exact .ints _ | exact .intss _ | exact .sli rfl | exact .sls rfl | exact .slr rfl | exact .orow rfl | exact .nil) | omega | ((first | apply w_lss | apply w_eql | apply w_add | apply w_idx | apply w_ld); iterate 3 exact rfl) | (apply w_idxo; exact rfl; exact rfl; (exact .sli rfl); exact rfl) | (apply w_ldo; iterate 4 exact rfl) | (apply inI_of <;> omega))
            all_goals try (exfalso; first | exact absurd hc' (by assumption) | exact absurd (by assumption) hc')
            exact ⟨j + 1, by omega, by omega, by rw [m2]; exact ⟨lee rfl (by (repeat (first | exact le_nil | refine le_eq rfl rfl ?_))), by (repeat (first | exact lo_nil | refine lo_eq rfl ?_)), rfl, rfl⟩⟩
        · have ej : j = L.length := by omega
          have hml2 : (mgR (idL W.length) (E.take (k + 1))).length = W.length := by rw [mgR_len, idL_len]
          rw [ej, mgT_all, ← hmt]
          repeat' (first | (apply AOps.nil; try simp only [List.nil_append, List.cons_append, List.set_cons_zero, List.set_cons_succ, List.length_cons, List.length_nil, Nat.reduceAdd, AV.sh, AV.sh1, AV.sh0, AO.sh, List.map_cons, List.map_nil, Nat.zero_add, Nat.add_zero, setAll]) | (apply w_move; exact rfl; exact rfl) | (apply w_assign; exact rfl; exact rfl) | apply AWp.seq | apply AWp.region | ((apply AWp.condP; exact rfl) <;> intro h) | apply AWp.block | apply AWp.exit | apply AWp.skip | (apply w_len; exact rfl; exact rfl; first | exact .ints _ | exact .intss _ | exact .sli rfl | exact .sls rfl | exact .slr rfl | exact .orow rfl | exact .nil) | omega | ((first | apply w_lss | apply w_add); iterate 3 exact rfl) | (apply inI_of <;> omega))
          exact ⟨k + 1, ⟨by omega, hrw, hpw, hef⟩, by omega, ⟨lee rfl (by (repeat (first | exact le_nil | refine le_eq rfl rfl ?_))), by (repeat (first | exact lo_nil | refine lo_eq rfl ?_)), rfl, rfl⟩⟩
    · have hno : gok W E = false := gok_f fun h => he (h.row _ hmem)
      unfold EIn at he
      generalize mgR (idL W.length) (E.take k) = L at *
      repeat' (first | (apply AOps.nil; try simp only [List.nil_append, List.cons_append, List.set_cons_zero, List.set_cons_succ, List.length_cons, List.length_nil, Nat.reduceAdd, AV.sh, AV.sh1, AV.sh0, AO.sh, List.map_cons, List.map_nil, Nat.zero_add, Nat.add_zero, setAll]) | (apply w_move; exact rfl; exact rfl) | (apply w_assign; exact rfl; exact rfl) | apply AWp.seq | apply AWp.region | ((apply AWp.condP; exact rfl) <;> intro h) | apply AWp.block | apply AWp.ret | apply AWp.exit | apply AWp.skip | (apply w_len; exact rfl; exact rfl; first | exact .ints _ | exact .intss _ | exact .sli rfl | exact .sls rfl | exact .slr rfl | exact .orow rfl | exact .nil) | omega | ((first | apply w_lss | apply w_idx | apply w_ld | apply w_fa); iterate 3 exact rfl) | ((first | apply w_idxs | apply w_lds); iterate 3 exact rfl) | (apply w_ldb; iterate 5 exact rfl))
      refine AWp.regionQ (by kernel_rfl) (by kernel_rfl) ?_
      repeat' (first | (apply AOps.nil; try simp only [List.nil_append, List.cons_append, List.set_cons_zero, List.set_cons_succ, List.length_cons, List.length_nil, Nat.reduceAdd, AV.sh, AV.sh1, AV.sh0, AO.sh, List.map_cons, List.map_nil, Nat.zero_add, Nat.add_zero, setAll]) | ((apply AOps.splitP; exact rfl; exact rfl) <;> intro h) | ((apply AOps.splitN; exact rfl; exact rfl) <;> intro h) | (apply w_move; exact rfl; exact rfl) | (apply w_assign; exact rfl; exact rfl) | apply AWp.seq | apply AWp.region | (apply AWp.condT; exact rfl) | apply AWp.ret | (apply w_skip; exact rfl) | (apply w_pickT; exact rfl; exact rfl; exact rfl) | (apply w_pickF; exact rfl; exact rfl; exact rfl) | (apply w_len; exact rfl; exact rfl; first | exact .ints _ | exact .intss _ | exact .sli rfl | exact .sls rfl | exact .slr rfl | exact .orow rfl | exact .nil) | (apply w_call (hi0); exact rfl; exact rfl; focus ((repeat (first | exact im_nil | refine im_cons rfl (.val _) ?_)); done)) | (apply w_call (hi1); exact rfl; exact rfl; focus ((repeat (first | exact im_nil | refine im_cons rfl (.val _) ?_)); done)) | omega | ((first | apply w_geq | apply w_neq | apply w_sub | apply w_idx | apply w_ld); iterate 3 exact rfl) | ((apply w_not); iterate 2 exact rfl) | (apply inI_of <;> omega))
      all_goals try (exfalso; omega)
      all_goals try exact .bool Try.results23 rfl hno.symm
  · have ek : k = E.length := by omega
    subst ek
    rw [List.take_length] at k1 k2 k3 ⊢
    have hyes : gok W E = true := gok_iff.2 ⟨⟨c1, c2⟩, i1, k1, k2, k3⟩
    repeat' (first | (apply AOps.nil; try simp only [List.nil_append, List.cons_append, List.set_cons_zero, List.set_cons_succ, List.length_cons, List.length_nil, Nat.reduceAdd, AV.sh, AV.sh1, AV.sh0, AO.sh, List.map_cons, List.map_nil, Nat.zero_add, Nat.add_zero, setAll]) | (apply w_move; exact rfl; exact rfl) | (apply w_assign; exact rfl; exact rfl) | apply AWp.seq | apply AWp.region | ((apply AWp.condP; exact rfl) <;> intro h) | apply AWp.block | apply AWp.ret | apply AWp.exit | apply AWp.skip | (apply w_len; exact rfl; exact rfl; first | exact .ints _ | exact .intss _ | exact .sli rfl | exact .sls rfl | exact .slr rfl | exact .orow rfl | exact .nil) | omega | ((first | apply w_lss | apply w_ld | apply w_fa); iterate 3 exact rfl) | (apply w_ldb; iterate 5 exact rfl))
    all_goals exact .bool Try.results23 rfl hyes.symm
end Go.Proofs.Ythjkpmjdkcainaa
/-
  Determinants, walked: the reference. No condition on the graph.
-/
namespace Go.Proofs.Ythjkpmjdkcainaa
open Go Go.RowKit
attribute [local irreducible] AWp AOps ResIs Ret1 QOp LOp COp AFnV AFn Imms LeE LeO
set_option maxHeartbeats 1000000
set_option linter.unusedSimpArgs false
set_option linter.unusedVariables false

theorem AFnC.mono {P : Program} {f : FuncId} {args : List AV} {objs : List AO} {Q Q' : AV → List AO → Prop} (h : AFnC P f args objs Q) (hq : ∀ r os, Q r os → Q' r os) : AFnC P f args objs Q' :=
  ⟨h.1, fun base w gs vs h1 h2 h3 h4 => (h.2 base w gs vs h1 h2 h3 h4).mono fun e w' ⟨v, r, os', gs', k1, k2, k3⟩ => ⟨v, r, os', gs', k1, hq _ _ k2, k3⟩⟩
theorem l11Branches_ok (W : List Int) (E : List (List Int)) (h : GrF W E) (hl : bdOk W.length (nearL E) W) : AFnC Try.prog 24 [.agg [.ints W, .intss E]] [] (fun r os => r = .tup [.own 0, .own 1, .b true] ∧ os = [.sli 2 (bdF W.length (nearL E) W), .sli 2 (bdG W.length (nearL E) W)]) :=
  (l11Branches_q W E h).mono fun r os hq => by
    rcases hq with ⟨_, h1, h2⟩ | ⟨h0, _⟩
    · exact ⟨h1, h2⟩
    · exact absurd hl h0
theorem l11Branches_lim (W : List Int) (E : List (List Int)) (h : GrF W E) (hl : ¬ bdOk W.length (nearL E) W) : AFnC Try.prog 24 [.agg [.ints W, .intss E]] [] (fun r os => r = .tup [.val (.slice none 0 0), .val (.slice none 0 0), .b false] ∧ os = []) :=
  (l11Branches_q W E h).mono fun r os hq => by
    rcases hq with ⟨h0, _⟩ | ⟨_, h1, h2⟩
    · exact absurd h0 hl
    · exact ⟨h1, h2⟩
theorem specBranch_bad (W : List Int) (E : List (List Int)) (h : gok W E = false) : AFnV Try.prog 7 [.agg [.ints W, .intss E]] (.tuple #[.slice none 0 0, .slice none 0 0, .int .i64 1]) := by
  have hg := l11Is_c W E
  rw [h] at hg
  (refine AFnV.start Try.func7 Try.ntmps7 rfl (by kernel_rfl) fun hk => ?_; simp only [Env.start, enumF, List.length_cons, List.length_nil, Nat.reduceAdd, Nat.reduceSub, List.cons_append, List.nil_append])
  repeat' (first | (apply AOps.nil; try simp only [List.nil_append, List.cons_append, List.set_cons_zero, List.set_cons_succ, List.length_cons, List.length_nil, Nat.reduceAdd, AV.sh, AV.sh1, AV.sh0, AO.sh, List.map_cons, List.map_nil, Nat.zero_add, Nat.add_zero, setAll]) | (apply w_assign; exact rfl; exact rfl) | apply AWp.seq | apply AWp.region | (apply AWp.condT; exact rfl) | apply AWp.ret | (apply w_call (hg); exact rfl; exact rfl; focus ((repeat (first | exact im_nil | refine im_cons rfl (im_agg2 (.ints _) (.intss _)) ?_)); done)) | ((first | apply w_not | apply w_boxa); iterate 2 exact rfl) | (apply w_ldst; iterate 5 exact rfl))
  all_goals exact .vv3 Try.results7 rfl rfl rfl
theorem specBranch_lim (W : List Int) (E : List (List Int)) (h : gok W E = true) (hl : ¬ bdOk W.length (nearL E) W) : AFnV Try.prog 7 [.agg [.ints W, .intss E]] (.tuple #[.slice none 0 0, .slice none 0 0, .int .i64 3]) := by
  have hg := l11Is_c W E
  have hh := (gok_iff.1 h).gr
  have hb := l11Branches_lim W E hh hl
  rw [h] at hg
  (refine AFnV.start Try.func7 Try.ntmps7 rfl (by kernel_rfl) fun hk => ?_; simp only [Env.start, enumF, List.length_cons, List.length_nil, Nat.reduceAdd, Nat.reduceSub, List.cons_append, List.nil_append])
  repeat' (first | (apply AOps.nil; try simp only [List.nil_append, List.cons_append, List.set_cons_zero, List.set_cons_succ, List.length_cons, List.length_nil, Nat.reduceAdd, AV.sh, AV.sh1, AV.sh0, AO.sh, List.map_cons, List.map_nil, Nat.zero_add, Nat.add_zero, setAll]) | (apply w_move; exact rfl; exact rfl) | (apply w_assign; exact rfl; exact rfl) | apply AWp.seq | apply AWp.region | (apply AWp.condT; exact rfl) | (apply AWp.condF; exact rfl) | apply AWp.ret | apply AWp.skip | (apply w_call (hg); exact rfl; exact rfl; focus ((repeat (first | exact im_nil | refine im_cons rfl (im_agg2 (.ints _) (.intss _)) ?_)); done)) | (apply w_callc [] (hb); exact rfl; (exact handed0); (focus ((repeat (first | exact imu_nil | refine imu_cons rfl (imu_agg2 (.ints _) (.intss _)) ?_)); done)); rintro r os0 ⟨rfl, rfl⟩; try simp only [List.nil_append, List.cons_append, List.set_cons_zero, List.set_cons_succ, List.length_cons, List.length_nil, Nat.reduceAdd, AV.sh, AV.sh1, AV.sh0, AO.sh, List.map_cons, List.map_nil, Nat.zero_add, Nat.add_zero, setAll]) | ((apply w_ext); iterate 3 exact rfl) | ((first | apply w_not | apply w_boxa); iterate 2 exact rfl) | (apply w_ldst; iterate 5 exact rfl))
  all_goals exact .vv3 Try.results7 rfl rfl rfl
theorem specBranch_ok (W : List Int) (E : List (List Int)) (h : gok W E = true) (hl : bdOk W.length (nearL E) W) : AFnC Try.prog 7 [.agg [.ints W, .intss E]] [] (fun r os => r = .tup [.own 0, .own 1, .i 0] ∧
      os = [.sli 2 (bdF W.length (nearL E) W), .sli 2 (bdG W.length (nearL E) W)]) := by
  have hg := l11Is_c W E
  have hh := (gok_iff.1 h).gr
  have hb := l11Branches_ok W E hh hl
  rw [h] at hg
  generalize bdF W.length (nearL E) W = F at *
  generalize bdG W.length (nearL E) W = G at *
  (refine AFnC.start Try.func7 Try.ntmps7 rfl (by kernel_rfl) fun K => ?_; simp only [Env.start, enumF, List.map_cons, List.map_nil, AV.sh, List.length_cons, List.length_nil, Nat.reduceAdd, Nat.reduceSub, List.cons_append, List.nil_append])
  repeat' (first | (apply AOps.nil; try simp only [List.nil_append, List.cons_append, List.set_cons_zero, List.set_cons_succ, List.length_cons, List.length_nil, Nat.reduceAdd, AV.sh, AV.sh1, AV.sh0, AO.sh, List.map_cons, List.map_nil, Nat.zero_add, Nat.add_zero, setAll]) | (apply w_move; exact rfl; exact rfl) | (apply w_assign; exact rfl; exact rfl) | apply AWp.seq | apply AWp.region | (apply AWp.condF; exact rfl) | apply AWp.ret | apply AWp.skip | (apply w_call (hg); exact rfl; exact rfl; focus ((repeat (first | exact im_nil | refine im_cons rfl (im_agg2 (.ints _) (.intss _)) ?_)); done)) | (apply w_callc [] (hb); exact rfl; (exact handed0); (focus ((repeat (first | exact imu_nil | refine imu_cons rfl (imu_agg2 (.ints _) (.intss _)) ?_)); done)); rintro r os0 ⟨rfl, rfl⟩; try simp only [List.nil_append, List.cons_append, List.set_cons_zero, List.set_cons_succ, List.length_cons, List.length_nil, Nat.reduceAdd, AV.sh, AV.sh1, AV.sh0, AO.sh, List.map_cons, List.map_nil, Nat.zero_add, Nat.add_zero, setAll]) | ((apply w_ext); iterate 3 exact rfl) | ((first | apply w_not | apply w_boxa); iterate 2 exact rfl) | (apply w_ldst; iterate 5 exact rfl))
  refine ⟨⟨21, [(2, .own 1), (3, .own 2), (4, .i 0)]⟩, [.sli 2 F, .sli 2 G], .tup [.own 0, .own 1, .i 0], Turns.or ?_, ResIs.a3 rfl rfl rfl rfl, all_cons' trivial (all_cons' trivial (all_cons' trivial all_nil')), ⟨rfl, rfl⟩, all_cons' trivial (all_cons' trivial all_nil')⟩
  (apply Or.inr; refine ⟨[0, 2, 3], ⟨by decide, fun x hx => Nat.lt_of_lt_of_le ((by decide : ∀ x ∈ ([0, 2, 3] : List Nat), x < 4) x hx) (Nat.le_of_ble_eq_true rfl)⟩, lee rfl ?_, ?_, rfl, (by first | exact rfl | (simp [AO.lim, AV.lim, bL_lim]; done))⟩; (focus ((repeat (first | exact le_nil | refine le_eq rfl rfl ?_)); done)); (focus ((repeat (first | exact lo_nil | refine lo_eq rfl ?_)); done)))

end Go.Proofs.Ythjkpmjdkcainaa
