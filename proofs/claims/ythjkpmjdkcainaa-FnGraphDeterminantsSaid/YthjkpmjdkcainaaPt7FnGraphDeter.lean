/-
  Parts of the proof, one behind the other: contracts of functions and plain laws. No condition.
-/
import Derived.Test.YthjkpmjdkcainaaPt6FnGraphDeter
/-
  The determinant, walked: the reference. No condition on the graph.
-/
namespace Go.Proofs.Ythjkpmjdkcainaa
open Go Go.RowKit
attribute [local irreducible] AWp AOps ResIs Ret1 QOp LOp COp AFnV AFn Imms LeE LeO
set_option maxHeartbeats 1000000
set_option linter.unusedSimpArgs false
set_option linter.unusedVariables false

theorem dtF_no (F : List Int) : ∀ (vs : List Int) (d : Int), (dtF F vs (d, false)).2 = false
  | [], _ => rfl
  | v :: vs, d => by rw [dtF, if_neg (by simp)]; exact dtF_no F vs d
theorem rts_pre (n : Nat) (near : Int → List Int) (i : Nat) : ∀ j, i ≤ j → ∃ t, rts n near j = rts n near i ++ t := by
  intro j hj
  induction hj with
  | refl => exact ⟨[], by simp⟩
  | step _ ih =>
    obtain ⟨t, ht⟩ := ih
    rw [rts]; split
    · exact ⟨t, ht⟩
    · exact ⟨t ++ [_], by rw [ht, List.append_assoc]⟩
noncomputable def dtS (W : List Int) (E : List (List Int)) : Int × Bool := dtF (bdF W.length (nearL E) W) (rts W.length (nearL E) W.length) (1, true)
theorem gdV_ok {W : List Int} {E : List (List Int)} (h : GrF W E) (hl : bdOk W.length (nearL E) W) : gdV W E = dtS W E := by
  have hend := br_end (W := W) h.fo.fst h.w
  have hl' : (brF W.length (nearL E) W W.length).1.l = false := by
    cases e : (brF W.length (nearL E) W W.length).1.l with
    | false => rfl
    | true => exact absurd hl (hend.2.1.1 e)
  unfold gdV dtS
  rw [hl', (hend.2.2 hl).1]; rfl
theorem gdV_lim {W : List Int} {E : List (List Int)} (h : GrF W E) (hl : ¬ bdOk W.length (nearL E) W) : (gdV W E).2 = false := by
  have hend := br_end (W := W) h.fo.fst h.w
  unfold gdV
  rw [hend.2.1.2 hl]
  exact dtF_no _ _ _

set_option maxHeartbeats 16000000 in
theorem l11Det_ok (W : List Int) (E : List (List Int)) (h : GrF W E) (hl : bdOk W.length (nearL E) W) : AFnV Try.prog 26 [.agg [.ints W, .intss E]] (.tuple #[.int .i64 (if (dtS W E).2 = true then (dtS W E).1 else 0), .bool (dtS W E).2]) := by
  have hb := l11Branches_ok W E h hl
  have hlab := l11Labels_c W E h
  have hidx := index_root W E h
  have hn := h.n
  have hF := h.fo.fst
  have hend := br_end (W := W) hF h.w
  have hFi : ∀ x ∈ bdF W.length (nearL E) W, inM x := by rw [← (hend.2.2 hl).1]; exact (gr_lens h).2.2
  have hlen : (labS W.length (nearL E) W.length).length = W.length := by
    obtain ⟨m, hL⟩ := labS_ok hF (by omega) W.length (Nat.le_refl _)
    exact hL.len
  have hfl : (bdF W.length (nearL E) W).length = W.length := by simp [bdF]
  have hres : dtS W E = dtF (bdF W.length (nearL E) W) (rts W.length (nearL E) W.length) (1, true) := rfl
  generalize dtS W E = res at *
  generalize bdF W.length (nearL E) W = F at *
  generalize bdG W.length (nearL E) W = G at *
  generalize labS W.length (nearL E) W.length = Lb at *
  (refine AFnV.start Try.func26 Try.ntmps26 rfl (by kernel_rfl) fun hk => ?_; simp only [Env.start, enumF, List.length_cons, List.length_nil, Nat.reduceAdd, Nat.reduceSub, List.cons_append, List.nil_append])
  repeat' (first | (apply AOps.nil; try simp only [List.nil_append, List.cons_append, List.set_cons_zero, List.set_cons_succ, List.length_cons, List.length_nil, Nat.reduceAdd, AV.sh, AV.sh1, AV.sh0, AO.sh, List.map_cons, List.map_nil, Nat.zero_add, Nat.add_zero, setAll]) | (apply w_move; exact rfl; exact rfl) | (apply w_assign; exact rfl; exact rfl) | apply AWp.seq | apply AWp.region | (apply AWp.condF; exact rfl) | apply AWp.block | apply AWp.skip | (apply w_callc [] (hb); exact rfl; (exact handed0); (focus ((repeat (first | exact imu_nil | refine imu_cons rfl (imu_agg2 (.ints _) (.intss _)) ?_)); done)); rintro r os0 ⟨rfl, rfl⟩; try simp only [List.nil_append, List.cons_append, List.set_cons_zero, List.set_cons_succ, List.length_cons, List.length_nil, Nat.reduceAdd, AV.sh, AV.sh1, AV.sh0, AO.sh, List.map_cons, List.map_nil, Nat.zero_add, Nat.add_zero, setAll]) | (apply w_callm (hlab); (focus ((repeat (first | exact im_nil | refine im_cons rfl (im_agg2 (.ints _) (.intss _)) ?_)); done)); rintro r os0 ⟨rfl, rfl⟩; try simp only [List.nil_append, List.cons_append, List.set_cons_zero, List.set_cons_succ, List.length_cons, List.length_nil, Nat.reduceAdd, AV.sh, AV.sh1, AV.sh0, AO.sh, List.map_cons, List.map_nil, Nat.zero_add, Nat.add_zero, setAll]) | ((apply w_ext); iterate 3 exact rfl) | ((first | apply w_not | apply w_boxa); iterate 2 exact rfl) | (apply w_ldst; iterate 5 exact rfl))
  refine AWp.loop (ι := Nat) (fun i => ⟨49, [(4, .own 1), (7, .own 3), (8, .i (dtF F (rts W.length (nearL E) i) (1, true)).1), (9, .i i)]⟩) (fun _ => [.bx 27 [.ints W, .intss E], .sli 2 F, .sli 2 G, .sli 2 Lb]) (fun i => i ≤ W.length ∧ (dtF F (rts W.length (nearL E) i) (1, true)).2 = true) (fun i => W.length - i) 0 ⟨by omega, rfl⟩ ⟨lee rfl (by (repeat (first | exact le_nil | refine le_eq rfl rfl ?_))), by (repeat (first | exact lo_nil | refine lo_eq rfl ?_)), rfl, rfl⟩ ?_
  rintro i ⟨i0, i1⟩
  have hin := dtF_in F (rts W.length (nearL E) i) (1, true) inM1
  by_cases hi : i < W.length
  · obtain ⟨jx, jx1, jx2, hix⟩ := hidx i hi
    have e7 : geti Lb (((i : Nat) : Int).toNat : Nat) = geti Lb (i : Nat) := by rw [Int.toNat_natCast]
    rw [← e7] at hix
    have hst := rts_step hF hi
    by_cases hr : (i : Int) ∈ rts W.length (nearL E) W.length
    · have ejx := jx2.2 hr
      rw [if_pos hr] at hst
      have e8 : geti F (((i : Nat) : Int).toNat : Nat) = geti F (i : Nat) := by rw [Int.toNat_natCast]
      have e1 : dtF F (rts W.length (nearL E) (i + 1)) (1, true) = (tmV (dtF F (rts W.length (nearL E) i) (1, true)).1 (geti F (i : Nat)), tok (dtF F (rts W.length (nearL E) i) (1, true)).1 (geti F (i : Nat))) := by
        rw [hst, dtF_app, dtF, dtF, if_pos i1]
      obtain ⟨t, ht⟩ := rts_pre W.length (nearL E) (i + 1) W.length (by omega)
      have c1 := l11Times_c (dtF F (rts W.length (nearL E) i) (1, true)).1 (geti F (i : Nat)) hin (hFi _ (geti_mem (by omega) (by omega)))
      rw [ht, dtF_app, e1] at hres
      rw [← e8] at c1 e1 hres
      generalize dtF F (rts W.length (nearL E) i) (1, true) = s at *
      cases hk : tok s.1 (geti F (((i : Nat) : Int).toNat : Nat)) with
      | false =>
        rw [hk] at c1 hres
        have hr2 : res.2 = false := by rw [hres]; exact dtF_no _ _ _
        rw [hr2]
        repeat' (first | (apply AOps.nil; try simp only [List.nil_append, List.cons_append, List.set_cons_zero, List.set_cons_succ, List.length_cons, List.length_nil, Nat.reduceAdd, AV.sh, AV.sh1, AV.sh0, AO.sh, List.map_cons, List.map_nil, Nat.zero_add, Nat.add_zero, setAll]) | (apply w_move; exact rfl; exact rfl) | (apply w_assign; exact rfl; exact rfl) | apply AWp.seq | apply AWp.region | ((apply AWp.condP; exact rfl) <;> intro h) | (apply AWp.condT; exact rfl) | apply AWp.block | apply AWp.ret | apply AWp.exit | apply AWp.skip | (apply w_len; exact rfl; exact rfl; first | exact .ints _ | exact .intss _ | exact .sli rfl | exact .sls rfl | exact .slr rfl | exact .orow rfl | exact .nil) | (apply w_call (hix); exact rfl; exact rfl; focus ((repeat (first | exact im_nil | refine im_cons rfl (.val _) ?_ | refine im_cons rfl (.sli rfl) ?_)); done)) | (apply w_call (c1); exact rfl; exact rfl; focus ((repeat (first | exact im_nil | refine im_cons rfl (.val _) ?_)); done)) | omega | ((first | apply w_lss | apply w_neq | apply w_idx | apply w_ld | apply w_extv); iterate 3 exact rfl) | ((apply w_not); iterate 2 exact rfl) | (apply w_idxo; exact rfl; exact rfl; (exact .sli rfl); exact rfl) | (apply w_ldo; iterate 4 exact rfl))
        all_goals try (exfalso; omega)
        all_goals exact .vv2 Try.results26 rfl rfl
      | true =>
        rw [hk] at c1 e1
        repeat' (first | (apply AOps.nil; try simp only [List.nil_append, List.cons_append, List.set_cons_zero, List.set_cons_succ, List.length_cons, List.length_nil, Nat.reduceAdd, AV.sh, AV.sh1, AV.sh0, AO.sh, List.map_cons, List.map_nil, Nat.zero_add, Nat.add_zero, setAll]) | (apply w_move; exact rfl; exact rfl) | (apply w_assign; exact rfl; exact rfl) | apply AWp.seq | apply AWp.region | ((apply AWp.condP; exact rfl) <;> intro h) | (apply AWp.condF; exact rfl) | apply AWp.block | apply AWp.ret | apply AWp.exit | apply AWp.skip | (apply w_len; exact rfl; exact rfl; first | exact .ints _ | exact .intss _ | exact .sli rfl | exact .sls rfl | exact .slr rfl | exact .orow rfl | exact .nil) | (apply w_call (hix); exact rfl; exact rfl; focus ((repeat (first | exact im_nil | refine im_cons rfl (.val _) ?_ | refine im_cons rfl (.sli rfl) ?_)); done)) | (apply w_call (c1); exact rfl; exact rfl; focus ((repeat (first | exact im_nil | refine im_cons rfl (.val _) ?_)); done)) | omega | ((first | apply w_lss | apply w_neq | apply w_add | apply w_idx | apply w_ld | apply w_extv); iterate 3 exact rfl) | ((apply w_not); iterate 2 exact rfl) | (apply w_idxo; exact rfl; exact rfl; (exact .sli rfl); exact rfl) | (apply w_ldo; iterate 4 exact rfl) | (apply inI_of <;> omega))
        all_goals try (exfalso; omega)
        exact ⟨i + 1, ⟨by omega, by rw [e1]⟩, by omega, by rw [e1]; exact ⟨lee rfl (by (repeat (first | exact le_nil | refine le_eq rfl rfl ?_))), by (repeat (first | exact lo_nil | refine lo_eq rfl ?_)), rfl, rfl⟩⟩
    · have ejx : ¬ jx = i := fun hh => hr (jx2.1 hh)
      rw [if_neg hr] at hst
      repeat' (first | (apply AOps.nil; try simp only [List.nil_append, List.cons_append, List.set_cons_zero, List.set_cons_succ, List.length_cons, List.length_nil, Nat.reduceAdd, AV.sh, AV.sh1, AV.sh0, AO.sh, List.map_cons, List.map_nil, Nat.zero_add, Nat.add_zero, setAll]) | (apply w_move; exact rfl; exact rfl) | (apply w_assign; exact rfl; exact rfl) | apply AWp.seq | apply AWp.region | ((apply AWp.condP; exact rfl) <;> intro h) | apply AWp.block | apply AWp.ret | apply AWp.exit | apply AWp.skip | (apply w_len; exact rfl; exact rfl; first | exact .ints _ | exact .intss _ | exact .sli rfl | exact .sls rfl | exact .slr rfl | exact .orow rfl | exact .nil) | (apply w_call (hix); exact rfl; exact rfl; focus ((repeat (first | exact im_nil | refine im_cons rfl (.val _) ?_ | refine im_cons rfl (.sli rfl) ?_)); done)) | omega | ((first | apply w_lss | apply w_neq | apply w_add | apply w_idx | apply w_ld); iterate 3 exact rfl) | (apply w_idxo; exact rfl; exact rfl; (exact .sli rfl); exact rfl) | (apply w_ldo; iterate 4 exact rfl) | (apply inI_of <;> omega))
      all_goals try (exfalso; omega)
      exact ⟨i + 1, ⟨by omega, by rw [hst]; exact i1⟩, by omega, by rw [hst]; exact ⟨lee rfl (by (repeat (first | exact le_nil | refine le_eq rfl rfl ?_))), by (repeat (first | exact lo_nil | refine lo_eq rfl ?_)), rfl, rfl⟩⟩
  · have ei : i = W.length := by omega
    subst ei
    rw [← hres] at i1 ⊢
    rw [i1, if_pos rfl]
    repeat' (first | (apply AOps.nil; try simp only [List.nil_append, List.cons_append, List.set_cons_zero, List.set_cons_succ, List.length_cons, List.length_nil, Nat.reduceAdd, AV.sh, AV.sh1, AV.sh0, AO.sh, List.map_cons, List.map_nil, Nat.zero_add, Nat.add_zero, setAll]) | (apply w_move; exact rfl; exact rfl) | (apply w_assign; exact rfl; exact rfl) | apply AWp.seq | apply AWp.region | ((apply AWp.condP; exact rfl) <;> intro h) | apply AWp.block | apply AWp.ret | apply AWp.exit | apply AWp.skip | (apply w_len; exact rfl; exact rfl; first | exact .ints _ | exact .intss _ | exact .sli rfl | exact .sls rfl | exact .slr rfl | exact .orow rfl | exact .nil) | omega | ((apply w_lss); iterate 3 exact rfl))
    all_goals exact .vv2 Try.results26 rfl rfl
theorem l11Det_lim (W : List Int) (E : List (List Int)) (h : GrF W E) (hl : ¬ bdOk W.length (nearL E) W) : AFnV Try.prog 26 [.agg [.ints W, .intss E]] (.tuple #[.int .i64 0, .bool false]) := by
  have hb := l11Branches_lim W E h hl
  (refine AFnV.start Try.func26 Try.ntmps26 rfl (by kernel_rfl) fun hk => ?_; simp only [Env.start, enumF, List.length_cons, List.length_nil, Nat.reduceAdd, Nat.reduceSub, List.cons_append, List.nil_append])
  repeat' (first | (apply AOps.nil; try simp only [List.nil_append, List.cons_append, List.set_cons_zero, List.set_cons_succ, List.length_cons, List.length_nil, Nat.reduceAdd, AV.sh, AV.sh1, AV.sh0, AO.sh, List.map_cons, List.map_nil, Nat.zero_add, Nat.add_zero, setAll]) | (apply w_move; exact rfl; exact rfl) | (apply w_assign; exact rfl; exact rfl) | apply AWp.seq | apply AWp.region | (apply AWp.condT; exact rfl) | apply AWp.ret | (apply w_callc [] (hb); exact rfl; (exact handed0); (focus ((repeat (first | exact imu_nil | refine imu_cons rfl (imu_agg2 (.ints _) (.intss _)) ?_)); done)); rintro r os0 ⟨rfl, rfl⟩; try simp only [List.nil_append, List.cons_append, List.set_cons_zero, List.set_cons_succ, List.length_cons, List.length_nil, Nat.reduceAdd, AV.sh, AV.sh1, AV.sh0, AO.sh, List.map_cons, List.map_nil, Nat.zero_add, Nat.add_zero, setAll]) | ((apply w_ext); iterate 3 exact rfl) | ((first | apply w_not | apply w_boxa); iterate 2 exact rfl) | (apply w_ldst; iterate 5 exact rfl))
  all_goals exact .vv2 Try.results26 rfl rfl
theorem specGraphDeterminant_c (W : List Int) (E : List (List Int)) : AFnV Try.prog 10 [.agg [.ints W, .intss E]] (.tuple #[.int .i64 (gdC W E).1, .int .i64 (gdC W E).2]) := by
  have hg := l11Is_c W E
  cases hv : gok W E with
  | false =>
    have e : gdC W E = (0, 1) := by unfold gdC; rw [if_neg (by rw [hv]; simp)]
    rw [hv] at hg
    rw [e]
    (refine AFnV.start Try.func10 Try.ntmps10 rfl (by kernel_rfl) fun hk => ?_; simp only [Env.start, enumF, List.length_cons, List.length_nil, Nat.reduceAdd, Nat.reduceSub, List.cons_append, List.nil_append])
    repeat' (first | (apply AOps.nil; try simp only [List.nil_append, List.cons_append, List.set_cons_zero, List.set_cons_succ, List.length_cons, List.length_nil, Nat.reduceAdd, AV.sh, AV.sh1, AV.sh0, AO.sh, List.map_cons, List.map_nil, Nat.zero_add, Nat.add_zero, setAll]) | (apply w_assign; exact rfl; exact rfl) | apply AWp.seq | apply AWp.region | (apply AWp.condT; exact rfl) | apply AWp.ret | (apply w_call (hg); exact rfl; exact rfl; focus ((repeat (first | exact im_nil | refine im_cons rfl (im_agg2 (.ints _) (.intss _)) ?_)); done)) | ((first | apply w_not | apply w_boxa); iterate 2 exact rfl) | (apply w_ldst; iterate 5 exact rfl))
    all_goals exact .vv2 Try.results10 rfl rfl
  | true =>
    have h := (gok_iff.1 hv).gr
    have e : gdC W E = if (gdV W E).2 = true then ((gdV W E).1, 0) else (0, 3) := by unfold gdC; rw [if_pos hv]
    rw [hv] at hg
    by_cases hl : bdOk W.length (nearL E) W
    · have hd := l11Det_ok W E h hl
      rw [← gdV_ok h hl] at hd
      rw [e]
      generalize gdV W E = s at *
      obtain ⟨d, ok⟩ := s
      cases ok with
      | true =>
        (refine AFnV.start Try.func10 Try.ntmps10 rfl (by kernel_rfl) fun hk => ?_; simp only [Env.start, enumF, List.length_cons, List.length_nil, Nat.reduceAdd, Nat.reduceSub, List.cons_append, List.nil_append])
        repeat' (first | (apply AOps.nil; try simp only [List.nil_append, List.cons_append, List.set_cons_zero, List.set_cons_succ, List.length_cons, List.length_nil, Nat.reduceAdd, AV.sh, AV.sh1, AV.sh0, AO.sh, List.map_cons, List.map_nil, Nat.zero_add, Nat.add_zero, setAll]) | (apply w_move; exact rfl; exact rfl) | (apply w_assign; exact rfl; exact rfl) | apply AWp.seq | apply AWp.region | (apply AWp.condF; exact rfl) | apply AWp.ret | apply AWp.skip | (apply w_call (hg); exact rfl; exact rfl; focus ((repeat (first | exact im_nil | refine im_cons rfl (im_agg2 (.ints _) (.intss _)) ?_)); done)) | (apply w_call (hd); exact rfl; exact rfl; focus ((repeat (first | exact im_nil | refine im_cons rfl (im_agg2 (.ints _) (.intss _)) ?_)); done)) | ((apply w_extv); iterate 3 exact rfl) | ((first | apply w_not | apply w_boxa); iterate 2 exact rfl) | (apply w_ldst; iterate 5 exact rfl))
        all_goals exact .vv2 Try.results10 rfl rfl
      | false =>
        (refine AFnV.start Try.func10 Try.ntmps10 rfl (by kernel_rfl) fun hk => ?_; simp only [Env.start, enumF, List.length_cons, List.length_nil, Nat.reduceAdd, Nat.reduceSub, List.cons_append, List.nil_append])
        repeat' (first | (apply AOps.nil; try simp only [List.nil_append, List.cons_append, List.set_cons_zero, List.set_cons_succ, List.length_cons, List.length_nil, Nat.reduceAdd, AV.sh, AV.sh1, AV.sh0, AO.sh, List.map_cons, List.map_nil, Nat.zero_add, Nat.add_zero, setAll]) | (apply w_move; exact rfl; exact rfl) | (apply w_assign; exact rfl; exact rfl) | apply AWp.seq | apply AWp.region | (apply AWp.condT; exact rfl) | (apply AWp.condF; exact rfl) | apply AWp.ret | apply AWp.skip | (apply w_call (hg); exact rfl; exact rfl; focus ((repeat (first | exact im_nil | refine im_cons rfl (im_agg2 (.ints _) (.intss _)) ?_)); done)) | (apply w_call (hd); exact rfl; exact rfl; focus ((repeat (first | exact im_nil | refine im_cons rfl (im_agg2 (.ints _) (.intss _)) ?_)); done)) | ((apply w_extv); iterate 3 exact rfl) | ((first | apply w_not | apply w_boxa); iterate 2 exact rfl) | (apply w_ldst; iterate 5 exact rfl))
        all_goals exact .vv2 Try.results10 rfl rfl
    · have hd := l11Det_lim W E h hl
      rw [e, gdV_lim h hl]
      (refine AFnV.start Try.func10 Try.ntmps10 rfl (by kernel_rfl) fun hk => ?_; simp only [Env.start, enumF, List.length_cons, List.length_nil, Nat.reduceAdd, Nat.reduceSub, List.cons_append, List.nil_append])
      repeat' (first | (apply AOps.nil; try simp only [List.nil_append, List.cons_append, List.set_cons_zero, List.set_cons_succ, List.length_cons, List.length_nil, Nat.reduceAdd, AV.sh, AV.sh1, AV.sh0, AO.sh, List.map_cons, List.map_nil, Nat.zero_add, Nat.add_zero, setAll]) | (apply w_move; exact rfl; exact rfl) | (apply w_assign; exact rfl; exact rfl) | apply AWp.seq | apply AWp.region | (apply AWp.condT; exact rfl) | (apply AWp.condF; exact rfl) | apply AWp.ret | apply AWp.skip | (apply w_call (hg); exact rfl; exact rfl; focus ((repeat (first | exact im_nil | refine im_cons rfl (im_agg2 (.ints _) (.intss _)) ?_)); done)) | (apply w_call (hd); exact rfl; exact rfl; focus ((repeat (first | exact im_nil | refine im_cons rfl (im_agg2 (.ints _) (.intss _)) ?_)); done)) | ((apply w_extv); iterate 3 exact rfl) | ((first | apply w_not | apply w_boxa); iterate 2 exact rfl) | (apply w_ldst; iterate 5 exact rfl))
      all_goals exact .vv2 Try.results10 rfl rfl
end Go.Proofs.Ythjkpmjdkcainaa
/-
  The labels of components and the roots: a label is new at the roots alone; the determinant is the product over them. No condition.
-/
namespace Go.Proofs.Ythjkpmjdkcainaa
open Go Go.RowKit

theorem mm_len (L : List Int) (e : List Int) : (mmL L e).length = L.length := mgL_len _ _ _
theorem mm_get {L e : List Int} {x : Int} (h0 : 0 ≤ x) (h1 : x < L.length) : geti (mmL L e) x = if geti L x = max (geti L (geti e 0)) (geti L (geti e 1)) then min (geti L (geti e 0)) (geti L (geti e 1)) else geti L x := mgL_get h0 h1
theorem lb_pres {n : Nat} : ∀ {E : List (List Int)} {L : List Int}, L.length = n → ∀ {x y : Int}, (0 ≤ x ∧ x < n) → (0 ≤ y ∧ y < n) → geti L x = geti L y → geti (lbR L E) x = geti (lbR L E) y
  | [], _, _, _, _, _, _, h => h
  | e :: E, L, hl, x, y, hx, hy, h => by
    rw [lbR]
    refine lb_pres (by rw [mm_len]; exact hl) hx hy ?_
    rw [mm_get hx.1 (by omega), mm_get hy.1 (by omega), h]
theorem lb_edge {n : Nat} : ∀ {E : List (List Int)} {L : List Int}, L.length = n → (∀ e ∈ E, EIn n e) → ∀ e ∈ E, geti (lbR L E) (geti e 0) = geti (lbR L E) (geti e 1)
  | [], _, _, _, e, he => by cases he
  | f :: E, L, hl, hE, e, he => by
    rw [lbR]
    rcases List.mem_cons.1 he with rfl | he
    · obtain ⟨_, h0, h1, h2⟩ := hE e (by simp)
      refine lb_pres (by rw [mm_len]; exact hl) ⟨h0, by omega⟩ ⟨by omega, h2⟩ ?_
      rw [mm_get h0 (by omega), mm_get (by omega) (by omega)]
      split <;> split <;> omega
    · exact lb_edge (by rw [mm_len]; exact hl) (fun g hg => hE g (by simp [hg])) e he
theorem lb_conn {n : Nat} {C : Int → Int} : ∀ {E : List (List Int)} {L : List Int}, L.length = n → (∀ e ∈ E, EIn n e ∧ C (geti e 0) = C (geti e 1)) →
    (∀ x y : Int, (0 ≤ x ∧ x < n) → (0 ≤ y ∧ y < n) → geti L x = geti L y → C x = C y) → ∀ x y : Int, (0 ≤ x ∧ x < n) → (0 ≤ y ∧ y < n) → geti (lbR L E) x = geti (lbR L E) y → C x = C y
  | [], _, _, _, h, x, y, hx, hy, e => h x y hx hy e
  | f :: E, L, hl, hE, h, x, y, hx, hy, e => by
    rw [lbR] at e
    obtain ⟨⟨_, f0, f1, f2⟩, hc⟩ := hE f (by simp)
    refine lb_conn (C := C) (L := mmL L f) (by rw [mm_len]; exact hl) (fun g hg => hE g (by simp [hg])) ?_ x y hx hy e
    intro u v hu hv e2
    rw [mm_get hu.1 (by omega), mm_get hv.1 (by omega)] at e2
    have k0 : ∀ z : Int, (0 ≤ z ∧ z < n) → geti L z = geti L (geti f 0) → C z = C (geti f 0) := fun z hz ez => h z _ hz ⟨f0, by omega⟩ ez
    have k1 : ∀ z : Int, (0 ≤ z ∧ z < n) → geti L z = geti L (geti f 1) → C z = C (geti f 0) := fun z hz ez => by rw [hc]; exact h z _ hz ⟨by omega, f2⟩ ez
    have key : ∀ z : Int, (0 ≤ z ∧ z < n) → (geti L z = min (geti L (geti f 0)) (geti L (geti f 1)) ∨ geti L z = max (geti L (geti f 0)) (geti L (geti f 1))) → C z = C (geti f 0) := fun z hz ez => by
      by_cases hq : geti L z = geti L (geti f 0)
      · exact k0 z hz hq
      · exact k1 z hz (by omega)
    by_cases c1 : geti L u = max (geti L (geti f 0)) (geti L (geti f 1))
    · rw [if_pos c1] at e2
      rw [key u hu (.inr c1)]
      by_cases c2 : geti L v = max (geti L (geti f 0)) (geti L (geti f 1))
      · rw [key v hv (.inr c2)]
      · rw [if_neg c2] at e2
        rw [key v hv (.inl e2.symm)]
    · rw [if_neg c1] at e2
      by_cases c2 : geti L v = max (geti L (geti f 0)) (geti L (geti f 1))
      · rw [if_pos c2] at e2
        rw [key u hu (.inl e2), key v hv (.inr c2)]
      · rw [if_neg c2] at e2
        exact h u v hu hv e2
section
variable {n : Nat} {E : List (List Int)}
/-- The components' representatives. -/
def repL (n : Nat) (E : List (List Int)) : List Int := lbR (idL n) E
theorem rep_ri (hE : ∀ e ∈ E, EIn n e) : RI n (repL n E) := (rc_run (E := E) (RI.id n) (M := idL n) (fun _ _ _ _ _ _ => Iff.rfl) (idL_len n) hE).1
theorem rep_near (hE : ∀ e ∈ E, EIn n e) {u v : Int} (h : u ∈ nearL E v) : geti (repL n E) u = geti (repL n E) v := by
  rcases (near_mem (fun e he => (hE e he).1)).1 h with h | h
  · exact lb_edge (idL_len n) hE _ h
  · exact (lb_edge (idL_len n) hE _ h).symm
theorem rep_tree (hE : ∀ e ∈ E, EIn n e) {r : Int} {o p : List Int} (h : Tr n (nearL E) r o p) : ∀ (m j : Nat) (x : Int), j ≤ m → o[j]? = some x → geti (repL n E) x = geti (repL n E) r := by
  intro m
  induction m with
  | zero =>
    intro j x hj hx
    obtain rfl : j = 0 := by omega
    have := h.root
    rw [hx] at this
    cases this
    rfl
  | succ m ih =>
    intro j x hj hx
    by_cases e : x = r
    · rw [e]
    · obtain ⟨k, y, k1, k2, k3, k4⟩ := h.par hx e
      rw [rep_near hE k4]
      exact ih k y (by omega) k2
theorem root_conn (hF : Fst n (nearL E)) {u v : Int} (hu : 0 ≤ u ∧ u < n) (hv : 0 ≤ v ∧ v < n) (h : u ∈ nearL E v) : rootOf n (nearL E) u = rootOf n (nearL E) v := by
  obtain ⟨a1, a2⟩ := rootOf_ok hF hu
  obtain ⟨b1, b2⟩ := rootOf_ok hF hv
  have := (trC_ok hF (rts_rng n (nearL E) n _ b1)).closed hF b2 h
  exact rts_uniq hF a1 b1 a2 this
theorem root_same (hF : Fst n (nearL E)) (hE : ∀ e ∈ E, EIn n e) {x y : Int} (hx : 0 ≤ x ∧ x < n) (hy : 0 ≤ y ∧ y < n) (h : geti (repL n E) x = geti (repL n E) y) : rootOf n (nearL E) x = rootOf n (nearL E) y := by
  refine lb_conn (idL_len n) (fun e he => ⟨hE e he, ?_⟩) (fun u v hu hv e => ?_) x y hx hy h
  · obtain ⟨h0, h1, h2, h3⟩ := hE e he
    refine root_conn hF ⟨h1, by omega⟩ ⟨by omega, h3⟩ ?_
    refine (near_mem (fun e he => (hE e he).1)).2 (.inl ?_)
    rw [← e2 h0]; exact he
  · rw [idL_get hu, idL_get hv] at e
    rw [e]
theorem root_iff (hF : Fst n (nearL E)) (hE : ∀ e ∈ E, EIn n e) {v : Nat} (hv : v < n) : (v : Int) ∈ rts n (nearL E) n ↔ geti (repL n E) (v : Nat) = (v : Nat) := by
  have hR := rep_ri hE
  have l0 := hR.lo (v : Nat) (by omega) (by omega)
  have l1 := hR.hi (v : Nat) (by omega) (by omega)
  have l2 := hR.idem (v : Nat) (by omega) (by omega)
  obtain ⟨a1, a2⟩ := rootOf_ok hF (x := (v : Int)) ⟨by omega, by omega⟩
  have hTv := trC_ok hF (rts_rng n (nearL E) n _ a1)
  constructor
  · intro hr
    have hself := (trC_ok hF (r := (v : Int)) ⟨by omega, by omega⟩).rt
    have e1 : rootOf n (nearL E) (v : Int) = (v : Int) := rts_uniq hF a1 hr a2 hself
    refine Classical.byContradiction fun hne => ?_
    have hs := root_same hF hE (x := geti (repL n E) (v : Nat)) (y := (v : Nat)) ⟨l0, by omega⟩ ⟨by omega, by omega⟩ l2
    obtain ⟨b1, b2⟩ := rootOf_ok hF (x := geti (repL n E) (v : Nat)) ⟨l0, by omega⟩
    rw [hs, e1] at b2
    obtain ⟨r, r1, r2⟩ := rts_cov hF v (by omega) (geti (repL n E) (v : Nat)) l0 (by omega)
    have r3 := rts_rng n (nearL E) v r r1
    have := rts_uniq hF (rts_mono n (nearL E) r1 n (by omega)) hr r2 b2
    omega
  · intro hl
    have hlt := hTv.rt
    obtain ⟨j, hj⟩ := List.getElem?_of_mem a2
    have e1 := rep_tree hE hTv j j _ (Nat.le_refl _) hj
    have rr := rts_rng n (nearL E) n _ a1
    have e2 := hR.hi _ rr.1 rr.2
    rw [← e1, hl] at e2
    obtain ⟨r, r1, r2⟩ := rts_cov hF (v + 1) (by omega) (v : Int) (by omega) (by omega)
    have r3 := rts_rng n (nearL E) (v + 1) r r1
    have e3 := rts_uniq hF (rts_mono n (nearL E) r1 n (by omega)) a1 r2 a2
    have : rootOf n (nearL E) (v : Int) = (v : Int) := by omega
    rw [← this]; exact a1
theorem nm_val {L : List Int} (h : RI n L) : ∀ i, i ≤ n → ∀ x : Int, 0 ≤ x → x < i → geti (nmF L i).1 x = (rcL L (geti L x).toNat : Nat)
  | 0, _, x, h0, h1 => by omega
  | i + 1, hi, x, h0, h1 => by
    have ih := nm_val h i (by omega)
    have hN := nm_run h i (by omega)
    have ho := hN.old (i : Nat) (Int.le_refl _)
    have hl := hN.len
    have l1 := h.lo (i : Nat) (by omega) (by omega)
    have l2 := h.hi (i : Nat) (by omega) (by omega)
    have hset : ∀ v x : Int, 0 ≤ x → geti ((nmF L i).1.set i v) x = if x = (i : Nat) then v else geti (nmF L i).1 x := fun v x hx => by
      have := geti_set0 (p := (nmF L i).1) (u := (i : Nat)) (v := v) (x := x) (by omega) hx (by omega)
      simpa using this
    rw [nmF, ho]
    by_cases hc : geti L (i : Nat) = (i : Nat)
    · rw [if_pos hc]
      show geti ((nmF L i).1.set i (nmF L i).2) x = _
      rw [hset _ _ h0]
      split
      · rename_i e; rw [e, hc, hN.num, Int.toNat_natCast]
      · exact ih x h0 (by omega)
    · rw [if_neg hc]
      show geti ((nmF L i).1.set i (geti (nmF L i).1 (geti L (i : Nat)))) x = _
      rw [hset _ _ h0]
      split
      · rename_i e
        rw [e, ih _ l1 (by omega), h.idem (i : Nat) (by omega) (by omega)]
      · exact ih x h0 (by omega)
theorem rc_mono (L : List Int) (i : Nat) : ∀ j, i ≤ j → rcL L i ≤ rcL L j
  | 0, h => by
    obtain rfl : i = 0 := by omega
    exact Nat.le_refl _
  | j + 1, h => by
    have hs := rc_succ L j
    rcases Nat.lt_or_ge j i with h2 | h2
    · obtain rfl : i = j + 1 := by omega
      exact Nat.le_refl _
    · have := rc_mono L i j h2
      omega
/-- A label is new at the roots alone. -/
theorem lab_new (hE : ∀ e ∈ E, EIn n e) {v : Nat} (hv : v < n) : geti (labF n E) (v : Nat) = (rcL (repL n E) v : Nat) ↔ geti (repL n E) (v : Nat) = (v : Nat) := by
  have hR := rep_ri hE
  have e : geti (labF n E) (v : Nat) = (rcL (repL n E) (geti (repL n E) (v : Nat)).toNat : Nat) := nm_val hR n (Nat.le_refl _) (v : Nat) (by omega) (by omega)
  have l0 := hR.lo (v : Nat) (by omega) (by omega)
  have l1 := hR.hi (v : Nat) (by omega) (by omega)
  have l2 := hR.idem (v : Nat) (by omega) (by omega)
  rw [e]
  constructor
  · intro h
    refine Classical.byContradiction fun hne => ?_
    have h1 := rc_succ (repL n E) (geti (repL n E) (v : Nat)).toNat
    rw [show (((geti (repL n E) (v : Nat)).toNat : Nat) : Int) = geti (repL n E) (v : Nat) by omega, if_pos l2] at h1
    have h2 := rc_mono (repL n E) ((geti (repL n E) (v : Nat)).toNat + 1) v (by omega)
    omega
  · intro h
    rw [h, Int.toNat_natCast]
/-- The product over the roots among the first vertices. -/
noncomputable def dtP (n : Nat) (near : Int → List Int) (F : List Int) (v : Nat) : Int := (dtF F (rts n near v) (1, true)).1
theorem dtF_nof (F : List Int) : ∀ (vs : List Int) (d : Int), (dtF F vs (d, false)).2 = false
  | [], _ => rfl
  | v :: vs, d => by rw [dtF]; exact dtF_nof F vs d
theorem rts_pre2 (n : Nat) (near : Int → List Int) (i : Nat) : ∀ j, i ≤ j → ∃ t, rts n near j = rts n near i ++ t
  | 0, h => by
    obtain rfl : i = 0 := by omega
    exact ⟨[], by simp⟩
  | j + 1, h => by
    rcases Nat.lt_or_ge j i with h2 | h2
    · obtain rfl : i = j + 1 := by omega
      exact ⟨[], by simp⟩
    · obtain ⟨t, ht⟩ := rts_pre2 n near i j h2
      rw [rts]; split
      · exact ⟨t, ht⟩
      · exact ⟨t ++ [(j : Int)], by rw [ht, List.append_assoc]⟩
theorem dt_pre {near : Int → List Int} {F : List Int} (h : (dtF F (rts n near n) (1, true)).2 = true) {v : Nat} (hv : v ≤ n) : (dtF F (rts n near v) (1, true)).2 = true := by
  obtain ⟨t, ht⟩ := rts_pre2 n near v n hv
  rw [ht, dtF_app] at h
  cases e : (dtF F (rts n near v) (1, true)).2 with
  | true => rfl
  | false =>
    have : dtF F (rts n near v) (1, true) = ((dtF F (rts n near v) (1, true)).1, false) := by rw [← e]
    rw [this, dtF_nof] at h
    cases h
theorem dt_step {near : Int → List Int} {F : List Int} (hF : Fst n near) (h : (dtF F (rts n near n) (1, true)).2 = true) {v : Nat} (hv : v < n) :
    (inM (dtP n near F v) ∧ inM (dtP n near F (v + 1))) ∧ dtP n near F (v + 1) = if (v : Int) ∈ rts n near n then dtP n near F v * geti F (v : Nat) else dtP n near F v := by
  refine ⟨⟨dtF_in _ _ _ inM1, dtF_in _ _ _ inM1⟩, ?_⟩
  have h1 := dt_pre h (v := v + 1) (by omega)
  have h2 := dt_pre h (v := v) (by omega)
  unfold dtP
  rw [rts_step hF hv] at h1 ⊢
  split
  · rename_i hm
    rw [if_pos hm, dtF_app] at h1
    rw [dtF_app]
    simp only [dtF, h2, if_true] at h1 ⊢
    unfold tmV
    rw [if_pos h1]
  · rfl
end
end Go.Proofs.Ythjkpmjdkcainaa
/-
  The law of graph determinants. No condition.
-/
namespace Go.Proofs.Ythjkpmjdkcainaa
open Go Go.RowKit
attribute [local irreducible] AWp AOps ResIs Ret1 QOp LOp COp AFnV AFn Imms LeE LeO
set_option maxHeartbeats 1000000
set_option linter.unusedSimpArgs false
set_option linter.unusedVariables false

/-- The first numbers are positive. -/
def allB (F : List Int) (k : Nat) : Bool := (F.take k).all fun x => decide (0 < x)
theorem allB_succ {F : List Int} {k : Nat} (h : k < F.length) : allB F (k + 1) = (allB F k && decide (0 < geti F (k : Nat))) := by
  unfold allB
  rw [List.take_succ_eq_append_getElem h, List.all_append]
  simp [geti, h]
theorem allB_all (F : List Int) : allB F F.length = posB F := by unfold allB posB; rw [List.take_length]
/-- Some number is not zero. -/
def anyN (xs : List Int) : Bool := xs.any fun x => decide (x ≠ 0)
theorem anyN_t {xs : List Int} {x : Int} (h : anyN xs = true) : anyN (xs ++ [x]) = true := by
  unfold anyN at *
  rw [List.any_append, h]; rfl
theorem anyN_f {xs : List Int} {x : Int} {k : Nat} (h : anyN xs = false) (hk : xs.length = k) : anyN (xs ++ [x]) = decide (geti (xs ++ [x]) ((k : Int).toNat : Nat) ≠ 0) := by
  have e : geti (xs ++ [x]) ((k : Int).toNat : Nat) = x := by
    subst hk
    simp [geti, List.getD_eq_getElem?_getD]
  rw [e]
  unfold anyN at *
  rw [List.any_append, h]
  simp
theorem anyN_ex {xs : List Int} (h : anyN xs = true) : ∃ y : Nat, y < xs.length ∧ geti xs (y : Nat) ≠ 0 := by
  obtain ⟨x, hx, h0⟩ := List.any_eq_true.1 h
  obtain ⟨y, hy, rfl⟩ := List.mem_iff_getElem.1 hx
  exact ⟨y, hy, by simpa [geti, hy] using h0⟩
theorem snoc3 {xs : List Int} {x : Int} (h : ∀ x ∈ xs, -3 ≤ x ∧ x ≤ 3) (hx : -3 ≤ x ∧ x ≤ 3) : ∀ y ∈ xs ++ [x], -3 ≤ y ∧ y ≤ 3 := fun y hy => by
  rcases List.mem_append.1 hy with hy | hy
  · exact h y hy
  · rw [List.mem_singleton.1 hy]; exact hx
set_option maxRecDepth 8000 in
set_option maxHeartbeats 64000000 in
theorem lawGd_c (bs : List Int) (hbs : ∀ x ∈ bs, 0 ≤ x ∧ x ≤ 255) : AFnV Try.prog 3 [.ro (byR bs)] (.bool true) := by
  have hb0 : ∀ i, 0 ≤ geti bs i ∧ geti bs i ≤ 255 := fun i => by
    unfold geti
    rw [List.getD_eq_getElem?_getD]
    cases h : bs[i.toNat]? with
    | none => simp
    | some x => exact hbs x (List.mem_of_getElem? h)
  have hbig := big_c bs
  (refine AFnV.start Try.func3 Try.ntmps3 rfl (by kernel_rfl) fun hk => ?_; simp only [Env.start, enumF, List.length_cons, List.length_nil, Nat.reduceAdd, Nat.reduceSub, List.cons_append, List.nil_append])
  by_cases hl : (4096 : Int) < bs.length
  · rw [decide_eq_true hl] at hbig
    repeat' (first | (apply AOps.nil; try simp only [List.nil_append, List.cons_append, List.set_cons_zero, List.set_cons_succ, List.length_cons, List.length_nil, Nat.reduceAdd, AV.sh, AV.sh1, AV.sh0, AO.sh, List.map_cons, List.map_nil, Nat.zero_add, Nat.add_zero, setAll]) | (apply w_move; exact rfl; exact rfl) | (apply w_assign; exact rfl; exact rfl) | apply AWp.seq | apply AWp.region | (apply AWp.condT; exact rfl) | apply AWp.ret | (apply w_call (hbig); exact rfl; exact rfl; focus ((repeat (first | exact im_nil | refine im_cons rfl (.ro _) ?_)); done)))
    all_goals exact .bool Try.results3 rfl rfl
  rw [decide_eq_false hl] at hbig
  have hl2 : bs.length ≤ 1048576 := by omega
  have hd := drawBD_c bs hl2 hb0
  repeat' (first | (apply AOps.nil; try simp only [List.nil_append, List.cons_append, List.set_cons_zero, List.set_cons_succ, List.length_cons, List.length_nil, Nat.reduceAdd, AV.sh, AV.sh1, AV.sh0, AO.sh, List.map_cons, List.map_nil, Nat.zero_add, Nat.add_zero, setAll]) | (apply w_move; exact rfl; exact rfl) | (apply w_assign; exact rfl; exact rfl) | apply AWp.seq | apply AWp.region | (apply AWp.condF; exact rfl) | apply AWp.skip | (apply w_call (hbig); exact rfl; exact rfl; focus ((repeat (first | exact im_nil | refine im_cons rfl (.ro _) ?_)); done)) | (apply w_callm (hd); (focus ((repeat (first | exact im_nil | refine im_cons rfl (.ro _) ?_)); done)); rintro r os0 ⟨W, E, rfl, hr, hw1, hw2, he, hwb, he2⟩; try simp only [List.nil_append, List.cons_append, List.set_cons_zero, List.set_cons_succ, List.length_cons, List.length_nil, Nat.reduceAdd, AV.sh, AV.sh1, AV.sh0, AO.sh, List.map_cons, List.map_nil, Nat.zero_add, Nat.add_zero, setAll]) | (apply w_alst; iterate 2 exact rfl))
  obtain ⟨X, hXl, hX⟩ : ∃ X : List Int, X.length ≤ 40 ∧ ((r = .agg [.own 0, .own 1] ∧ X = W) ∨ (r = .agg [.osub 0 1 (W.length - 1), .own 1] ∧ X = (W.drop 1).take (W.length - 1))) := by
    rcases hr with h | h
    · exact ⟨W, hw2, .inl ⟨h, rfl⟩⟩
    · exact ⟨_, by rw [List.length_take]; omega, .inr ⟨h, rfl⟩⟩
  apply Tail.use
  case h =>
    intro ht
    rcases hX with ⟨rfl, hX⟩ | ⟨rfl, hX⟩
    · try simp only [List.nil_append, List.cons_append, List.set_cons_zero, List.set_cons_succ, List.length_cons, List.length_nil, Nat.reduceAdd, AV.sh, AV.sh1, AV.sh0, AO.sh, List.map_cons, List.map_nil, Nat.zero_add, Nat.add_zero, setAll]
      repeat' (first | (apply AOps.nil; try simp only [List.nil_append, List.cons_append, List.set_cons_zero, List.set_cons_succ, List.length_cons, List.length_nil, Nat.reduceAdd, AV.sh, AV.sh1, AV.sh0, AO.sh, List.map_cons, List.map_nil, Nat.zero_add, Nat.add_zero, setAll]) | apply AWp.seq | apply AWp.region | (apply w_ldst; iterate 5 exact rfl) | (apply w_stst; iterate 5 exact rfl))
      refine AOps.turns (Turns.freezeI (k := 0) rfl) ?_
      simp only [Env.mp, List.map_cons, List.map_nil, List.set_cons_zero, List.set_cons_succ, AV.frzI, AV.frzI1, AO.frzI, reduceIte, Nat.reduceEqDiff, Nat.zero_ne_one, Nat.one_ne_zero]
      refine AOps.turns (Turns.freeze (k := 1) rfl) ?_
      simp only [Env.mp, List.map_cons, List.map_nil, List.set_cons_zero, List.set_cons_succ, AV.frz, AV.frz1, AO.frz, bL_frz, reduceIte, Nat.reduceEqDiff, Nat.zero_ne_one, Nat.one_ne_zero]
      rw [← hX]
      refine AOps.cut (env' := ⟨202, [(0, .ro (byR bs)), (3, .optr 0 0), (34, .agg [.ints X, .intss E])]⟩) (os' := [.bx 27 [.ints X, .intss E]]) ?_ ?_
      · (apply Or.inr; refine ⟨[2], ⟨by decide, fun x hx => Nat.lt_of_lt_of_le ((by decide : ∀ x ∈ ([2] : List Nat), x < 3) x hx) (Nat.le_of_ble_eq_true rfl)⟩, lee rfl ?_, ?_, rfl, rfl⟩; (focus ((repeat (first | exact le_nil | refine le_eq rfl rfl ?_)); done)); (focus ((repeat (first | exact lo_nil | refine lo_eq rfl ?_)); done)))
      · exact ht.h
    · try simp only [List.nil_append, List.cons_append, List.set_cons_zero, List.set_cons_succ, List.length_cons, List.length_nil, Nat.reduceAdd, AV.sh, AV.sh1, AV.sh0, AO.sh, List.map_cons, List.map_nil, Nat.zero_add, Nat.add_zero, setAll]
      have hw : 1 + (W.length - 1) ≤ W.length := by omega
      repeat' (first | (apply AOps.nil; try simp only [List.nil_append, List.cons_append, List.set_cons_zero, List.set_cons_succ, List.length_cons, List.length_nil, Nat.reduceAdd, AV.sh, AV.sh1, AV.sh0, AO.sh, List.map_cons, List.map_nil, Nat.zero_add, Nat.add_zero, setAll]) | apply AWp.seq | apply AWp.region | (apply w_ldst; iterate 5 exact rfl) | (apply w_stst; iterate 5 exact rfl))
      refine AOps.cut (env' := ⟨202, [(0, .ro (byR bs)), (3, .optr 2 0), (34, .agg [.osub 0 1 (W.length - 1), .own 1])]⟩) (os' := [.sli 2 W, .sls 24 2 E, .bx 27 [.osub 0 1 (W.length - 1), .own 1]]) ?_ ?_
      · (apply Or.inl; refine ⟨lee rfl ?_, ?_, rfl, rfl⟩; (focus ((repeat (first | exact le_nil | refine le_eq rfl rfl ?_)); done)); (focus ((repeat (first | exact lo_nil | refine lo_eq rfl ?_)); done)))
      refine AOps.turns (Turns.freezeI (k := 0) rfl) ?_
      simp only [Env.mp, List.map_cons, List.map_nil, List.set_cons_zero, List.set_cons_succ, AV.frzI, AV.frzI1, AO.frzI, reduceIte, Nat.reduceEqDiff, Nat.zero_ne_one, Nat.one_ne_zero]
      simp only [hw, if_true]
      refine AOps.turns (Turns.freeze (k := 1) rfl) ?_
      simp only [Env.mp, List.map_cons, List.map_nil, List.set_cons_zero, List.set_cons_succ, AV.frz, AV.frz1, AO.frz, bL_frz, reduceIte, Nat.reduceEqDiff, Nat.zero_ne_one, Nat.one_ne_zero]
      rw [← hX]
      refine AOps.cut (env' := ⟨202, [(0, .ro (byR bs)), (3, .optr 0 0), (34, .agg [.ints X, .intss E])]⟩) (os' := [.bx 27 [.ints X, .intss E]]) ?_ ?_
      · (apply Or.inr; refine ⟨[2], ⟨by decide, fun x hx => Nat.lt_of_lt_of_le ((by decide : ∀ x ∈ ([2] : List Nat), x < 3) x hx) (Nat.le_of_ble_eq_true rfl)⟩, lee rfl ?_, ?_, rfl, rfl⟩; (focus ((repeat (first | exact le_nil | refine le_eq rfl rfl ?_)); done)); (focus ((repeat (first | exact lo_nil | refine lo_eq rfl ?_)); done)))
      · exact ht.h
  clear hX hr hw1 hw2 hwb
  have d1 := implGraphDeterminant_c X E
  have d2 := specGraphDeterminant_c X E
  have hln := likeInts_t [] (by simp)
  by_cases hB : gok X E = true ∧ bdOk X.length (nearL E) X
  · obtain ⟨hv, hb⟩ := hB
    have hok := gok_iff.1 hv
    have hgr := hok.gr
    have hFst := hgr.fo.fst
    have ib := implBranch_ok X E hv hb
    have sb := specBranch_ok X E hv hb
    have nb := implNegDef_ok X E hv hb
    have lb := implLabels_c X E hv
    have mb := implMatrix_c X E hv
    have hFl : (bdF X.length (nearL E) X).length = X.length := by simp [bdF]
    have hGl : (bdG X.length (nearL E) X).length = X.length := by simp [bdG]
    have hLl := (lab_max (n := X.length) (E := E) (by have := hok.n; omega) hok.row).1
    have l1 := likeInts_t (bdF X.length (nearL E) X) (by omega)
    have l2 := likeInts_t (bdG X.length (nearL E) X) (by omega)
    have hneg : posB (bdF X.length (nearL E) X) = true → ∀ x : Int → Int, (∃ y : Int, (0 ≤ y ∧ y < X.length) ∧ x y ≠ 0) → qF X.length (nearL E) X x < 0 := fun hp x hx => neg_def hFst hb hp hx
    have hgd : gdV X E = dtS X E := gdV_ok hgr hb
    unfold gdC at d1 d2
    rw [if_pos hv, hgd] at d1 d2
    have hdt := fun v => dt_step (n := X.length) (near := nearL E) (F := bdF X.length (nearL E) X) hFst (v := v)
    unfold dtS at d1 d2
    generalize hF : bdF X.length (nearL E) X = F at *
    generalize bdG X.length (nearL E) X = G at *
    obtain ⟨det, e, hde, d1', d2'⟩ : ∃ det e : Int, ((e = 0 ∧ (dtF F (rts X.length (nearL E) X.length) (1, true)).2 = true ∧ det = dtP X.length (nearL E) F X.length) ∨ e = 3) ∧ AFnV Try.prog 9 [.agg [.ints X, .intss E]] (.tuple #[.int .i64 det, .int .i64 e]) ∧ AFnV Try.prog 10 [.agg [.ints X, .intss E]] (.tuple #[.int .i64 det, .int .i64 e]) := by
      by_cases c : (dtF F (rts X.length (nearL E) X.length) (1, true)).2 = true
      · rw [if_pos c] at d1 d2
        exact ⟨_, _, .inl ⟨rfl, c, rfl⟩, d1, d2⟩
      · rw [if_neg c] at d1 d2
        exact ⟨_, _, .inr rfl, d1, d2⟩
    clear d1 d2
    generalize hP : posB F = P at *
    repeat' (first | (apply AOps.nil; try simp only [List.nil_append, List.cons_append, List.set_cons_zero, List.set_cons_succ, List.length_cons, List.length_nil, Nat.reduceAdd, AV.sh, AV.sh1, AV.sh0, AO.sh, List.map_cons, List.map_nil, Nat.zero_add, Nat.add_zero, setAll]) | ((apply AOps.splitP; exact rfl; exact rfl) <;> intro h) | (apply w_move; exact rfl; exact rfl) | (apply w_assign; exact rfl; exact rfl) | apply AWp.seq | apply AWp.region | ((apply AWp.condP; exact rfl) <;> intro h) | (apply AWp.condT; exact rfl) | (apply AWp.condF; exact rfl) | apply AWp.block | apply AWp.ret | apply AWp.skip | (apply w_skip; exact rfl) | (apply w_pickT; exact rfl; exact rfl; exact rfl) | (apply w_pickF; exact rfl; exact rfl; exact rfl) | ((apply w_not); iterate 2 exact rfl) | (apply w_callc [] (ib); exact rfl; (exact handed0); (focus ((repeat (first | exact imu_nil | refine imu_cons rfl (imu_agg2 (.ints _) (.intss _)) ?_)); done)); rintro r os0 ⟨rfl, rfl⟩; try simp only [List.nil_append, List.cons_append, List.set_cons_zero, List.set_cons_succ, List.length_cons, List.length_nil, Nat.reduceAdd, AV.sh, AV.sh1, AV.sh0, AO.sh, List.map_cons, List.map_nil, Nat.zero_add, Nat.add_zero, setAll]) | (apply w_callc [] (sb); exact rfl; (exact handed0); (focus ((repeat (first | exact imu_nil | refine imu_cons rfl (imu_agg2 (.ints _) (.intss _)) ?_)); done)); rintro r os0 ⟨rfl, rfl⟩; try simp only [List.nil_append, List.cons_append, List.set_cons_zero, List.set_cons_succ, List.length_cons, List.length_nil, Nat.reduceAdd, AV.sh, AV.sh1, AV.sh0, AO.sh, List.map_cons, List.map_nil, Nat.zero_add, Nat.add_zero, setAll]) | (apply w_call (nb); exact rfl; exact rfl; focus ((repeat (first | exact im_nil | refine im_cons rfl (im_agg2 (.ints _) (.intss _)) ?_)); done)) | (apply w_call (d1'); exact rfl; exact rfl; focus ((repeat (first | exact im_nil | refine im_cons rfl (im_agg2 (.ints _) (.intss _)) ?_)); done)) | (apply w_call (d2'); exact rfl; exact rfl; focus ((repeat (first | exact im_nil | refine im_cons rfl (im_agg2 (.ints _) (.intss _)) ?_)); done)) | (apply w_call (l1); exact rfl; exact rfl; focus ((repeat (first | exact im_nil | refine im_cons rfl (.sli rfl) ?_)); done)) | (apply w_call (l2); exact rfl; exact rfl; focus ((repeat (first | exact im_nil | refine im_cons rfl (.sli rfl) ?_)); done)) | omega | ((first | apply w_neq | apply w_extv); iterate 3 exact rfl) | ((apply w_ext); iterate 3 exact rfl) | (apply w_ldst; iterate 5 exact rfl))
    refine AWp.cut (env' := ⟨202, [(0, .ro (byR bs)), (3, .optr 0 0), (4, .own 1), (10, .i det), (11, .i e), (14, .b P), (15, .i 0), (16, .b true), (17, .i 0)]⟩) (os' := [.bx 27 [.ints X, .intss E], .sli 2 F]) ?_ ?_
    · (apply Or.inl; refine ⟨lee rfl ?_, ?_, rfl, rfl⟩; (focus ((repeat (first | exact le_nil | refine le_eq rfl rfl ?_)); done)); (focus ((repeat (first | exact lo_nil | refine lo_eq rfl ?_)); done)))
    refine AWp.loop (ι := Nat) (fun k => ⟨202, [(0, .ro (byR bs)), (3, .optr 0 0), (4, .own 1), (10, .i det), (11, .i e), (14, .b P), (15, .i 0), (16, .b (allB F k)), (17, .i k)]⟩) (fun _ => [.bx 27 [.ints X, .intss E], .sli 2 F]) (fun k => k ≤ F.length) (fun k => F.length - k) 0 (Nat.zero_le _) ⟨lee rfl (by (repeat (first | exact le_nil | refine le_eq rfl rfl ?_))), by (repeat (first | exact lo_nil | refine lo_eq rfl ?_)), rfl, rfl⟩ ?_
    · intro k k0
      by_cases hk : k < F.length
      · have hs := allB_succ hk
        cases hA : allB F k with
        | true =>
          rw [hA, Bool.true_and] at hs
          repeat' (first | (apply AOps.nil; try simp only [List.nil_append, List.cons_append, List.set_cons_zero, List.set_cons_succ, List.length_cons, List.length_nil, Nat.reduceAdd, AV.sh, AV.sh1, AV.sh0, AO.sh, List.map_cons, List.map_nil, Nat.zero_add, Nat.add_zero, setAll]) | (apply w_move; exact rfl; exact rfl) | (apply w_assign; exact rfl; exact rfl) | apply AWp.seq | apply AWp.region | ((apply AWp.condP; exact rfl) <;> intro h) | apply AWp.block | apply AWp.exit | apply AWp.skip | (apply w_pickT; exact rfl; exact rfl; exact rfl) | (apply w_len; exact rfl; exact rfl; first | exact .ints _ | exact .intss _ | exact .sli rfl | exact .sls rfl | exact .slr rfl | exact .orow rfl | exact .nil) | omega | ((first | apply w_lss | apply w_gtr | apply w_add | apply w_idx | apply w_ld); iterate 3 exact rfl) | (apply w_idxo; exact rfl; exact rfl; (exact .sli rfl); exact rfl) | (apply w_ldo; iterate 4 exact rfl) | (apply inI_of <;> omega))
          refine ⟨k + 1, by omega, by omega, ?_⟩
          rw [hs]
          exact ⟨lee rfl (by (repeat (first | exact le_nil | refine le_eq rfl rfl ?_))), by (repeat (first | exact lo_nil | refine lo_eq rfl ?_)), rfl, rfl⟩
        | false =>
          rw [hA, Bool.false_and] at hs
          repeat' (first | (apply AOps.nil; try simp only [List.nil_append, List.cons_append, List.set_cons_zero, List.set_cons_succ, List.length_cons, List.length_nil, Nat.reduceAdd, AV.sh, AV.sh1, AV.sh0, AO.sh, List.map_cons, List.map_nil, Nat.zero_add, Nat.add_zero, setAll]) | (apply w_move; exact rfl; exact rfl) | (apply w_assign; exact rfl; exact rfl) | apply AWp.seq | apply AWp.region | ((apply AWp.condP; exact rfl) <;> intro h) | apply AWp.block | apply AWp.exit | apply AWp.skip | (apply w_skip; exact rfl) | (apply w_pickF; exact rfl; exact rfl; exact rfl) | (apply w_len; exact rfl; exact rfl; first | exact .ints _ | exact .intss _ | exact .sli rfl | exact .sls rfl | exact .slr rfl | exact .orow rfl | exact .nil) | omega | ((first | apply w_lss | apply w_add); iterate 3 exact rfl) | (apply inI_of <;> omega))
          refine ⟨k + 1, by omega, by omega, ?_⟩
          rw [hs]
          exact ⟨lee rfl (by (repeat (first | exact le_nil | refine le_eq rfl rfl ?_))), by (repeat (first | exact lo_nil | refine lo_eq rfl ?_)), rfl, rfl⟩
      · obtain rfl : k = F.length := by omega
        rw [allB_all, hP]
        repeat' (first | (apply AOps.nil; try simp only [List.nil_append, List.cons_append, List.set_cons_zero, List.set_cons_succ, List.length_cons, List.length_nil, Nat.reduceAdd, AV.sh, AV.sh1, AV.sh0, AO.sh, List.map_cons, List.map_nil, Nat.zero_add, Nat.add_zero, setAll]) | ((apply AOps.splitP; exact rfl; exact rfl) <;> intro h) | (apply w_move; exact rfl; exact rfl) | (apply w_assign; exact rfl; exact rfl) | apply AWp.seq | apply AWp.region | ((apply AWp.condP; exact rfl) <;> intro h) | (apply AWp.condT; exact rfl) | apply AWp.block | apply AWp.ret | apply AWp.exit | apply AWp.skip | (apply w_skip; exact rfl) | (apply w_pickT; exact rfl; exact rfl; exact rfl) | (apply w_pickF; exact rfl; exact rfl; exact rfl) | (apply w_len; exact rfl; exact rfl; first | exact .ints _ | exact .intss _ | exact .sli rfl | exact .sls rfl | exact .slr rfl | exact .orow rfl | exact .nil) | (apply w_callm (lb); (focus ((repeat (first | exact im_nil | refine im_cons rfl (im_agg2 (.ints _) (.intss _)) ?_)); done)); rintro r os0 ⟨rfl, rfl⟩; try simp only [List.nil_append, List.cons_append, List.set_cons_zero, List.set_cons_succ, List.length_cons, List.length_nil, Nat.reduceAdd, AV.sh, AV.sh1, AV.sh0, AO.sh, List.map_cons, List.map_nil, Nat.zero_add, Nat.add_zero, setAll]) | omega | contradiction | ((first | apply w_lss | apply w_neq | apply w_extv); iterate 3 exact rfl) | ((first | apply w_neqb | apply w_ext); iterate 3 exact rfl) | (apply w_ldst; iterate 5 exact rfl))
        apply Tail.use
        case h =>
          intro ht
          refine AWp.cut (env' := ⟨202, [(0, .ro (byR bs)), (3, .optr 0 0), (4, .own 1), (10, .i det), (11, .i e), (14, .b P), (18, .own 2), (20, .i 1), (21, .i 0), (22, .i 0)]⟩) (os' := [.bx 27 [.ints X, .intss E], .sli 2 F, .sli 2 (labF X.length E)]) ?_ ?_
          · (apply Or.inl; refine ⟨lee rfl ?_, ?_, rfl, rfl⟩; (focus ((repeat (first | exact le_nil | refine le_eq rfl rfl ?_)); done)); (focus ((repeat (first | exact lo_nil | refine lo_eq rfl ?_)); done)))
          rcases hde with ⟨rfl, hde, rfl⟩ | rfl
          · refine AWp.loop (ι := Nat) (fun v => ⟨202, [(0, .ro (byR bs)), (3, .optr 0 0), (4, .own 1), (10, .i (dtP X.length (nearL E) F X.length)), (11, .i 0), (14, .b P), (18, .own 2), (20, .i (dtP X.length (nearL E) F v)), (21, .i (rcL (repL X.length E) v)), (22, .i v)]⟩) (fun _ => [.bx 27 [.ints X, .intss E], .sli 2 F, .sli 2 (labF X.length E)]) (fun v => v ≤ X.length) (fun v => X.length - v) 0 (Nat.zero_le _) ⟨lee rfl (by (repeat (first | exact le_nil | refine le_eq rfl rfl ?_))), by (repeat (first | exact lo_nil | refine lo_eq rfl ?_)), rfl, rfl⟩ ?_
            intro v v0
            by_cases hv2 : v < X.length
            · obtain ⟨⟨m1, m2⟩, m3⟩ := hdt v hde hv2
              have hln2 := lab_new hok.row hv2
              have hri := root_iff hFst hok.row hv2
              have hrc := rc_succ (repL X.length E) v
              have hrl : rcL (repL X.length E) v ≤ v := by
                unfold rcL
                exact Nat.le_trans (List.length_filter_le _ _) (by rw [List.length_range]; exact Nat.le_refl _)
              unfold inM at m1 m2
              by_cases c : geti (repL X.length E) (v : Nat) = (v : Nat)
              · have hlab := hln2.2 c
                rw [if_pos (hri.2 c)] at m3
                rw [if_pos c] at hrc
                rw [m3] at m2
                have m2' : -1000000000000 ≤ dtP X.length (nearL E) F v * geti F ((v : Int).toNat : Nat) ∧ dtP X.length (nearL E) F v * geti F ((v : Int).toNat : Nat) ≤ 1000000000000 := m2
                repeat' (first | (apply AOps.nil; try simp only [List.nil_append, List.cons_append, List.set_cons_zero, List.set_cons_succ, List.length_cons, List.length_nil, Nat.reduceAdd, AV.sh, AV.sh1, AV.sh0, AO.sh, List.map_cons, List.map_nil, Nat.zero_add, Nat.add_zero, setAll]) | ((apply AOps.splitP; exact rfl; exact rfl) <;> intro h) | (apply w_move; exact rfl; exact rfl) | (apply w_assign; exact rfl; exact rfl) | apply AWp.seq | apply AWp.region | ((apply AWp.condP; exact rfl) <;> intro h) | (apply AWp.condF; exact rfl) | apply AWp.block | apply AWp.exit | apply AWp.skip | (apply w_skip; exact rfl) | (apply w_pickT; exact rfl; exact rfl; exact rfl) | (apply w_pickF; exact rfl; exact rfl; exact rfl) | (apply w_len; exact rfl; exact rfl; first | exact .ints _ | exact .intss _ | exact .sli rfl | exact .sls rfl | exact .slr rfl | exact .orow rfl | exact .nil) | omega | contradiction | ((first | apply w_lss | apply w_eql | apply w_add | apply w_mul | apply w_idx | apply w_ld); iterate 3 exact rfl) | (apply w_idxo; exact rfl; exact rfl; (exact .sli rfl); exact rfl) | (apply w_ldo; iterate 4 exact rfl) | (apply inI_of <;> omega))
                refine ⟨v + 1, by omega, by omega, ?_⟩
                rw [m3]
                exact ⟨lee rfl (by (repeat (first | exact le_nil | refine le_eq rfl rfl ?_ | refine le_eq rfl (congrArg AV.i (by omega)) ?_))), by (repeat (first | exact lo_nil | refine lo_eq rfl ?_)), rfl, rfl⟩
              · have hlab := mt hln2.1 c
                rw [if_neg (mt hri.1 c)] at m3
                rw [if_neg c] at hrc
                repeat' (first | (apply AOps.nil; try simp only [List.nil_append, List.cons_append, List.set_cons_zero, List.set_cons_succ, List.length_cons, List.length_nil, Nat.reduceAdd, AV.sh, AV.sh1, AV.sh0, AO.sh, List.map_cons, List.map_nil, Nat.zero_add, Nat.add_zero, setAll]) | ((apply AOps.splitP; exact rfl; exact rfl) <;> intro h) | (apply w_move; exact rfl; exact rfl) | (apply w_assign; exact rfl; exact rfl) | apply AWp.seq | apply AWp.region | ((apply AWp.condP; exact rfl) <;> intro h) | (apply AWp.condF; exact rfl) | apply AWp.block | apply AWp.exit | apply AWp.skip | (apply w_skip; exact rfl) | (apply w_pickT; exact rfl; exact rfl; exact rfl) | (apply w_pickF; exact rfl; exact rfl; exact rfl) | (apply w_len; exact rfl; exact rfl; first | exact .ints _ | exact .intss _ | exact .sli rfl | exact .sls rfl | exact .slr rfl | exact .orow rfl | exact .nil) | omega | contradiction | ((first | apply w_lss | apply w_eql | apply w_add | apply w_idx | apply w_ld); iterate 3 exact rfl) | (apply w_idxo; exact rfl; exact rfl; (exact .sli rfl); exact rfl) | (apply w_ldo; iterate 4 exact rfl) | (apply inI_of <;> omega))
                refine ⟨v + 1, by omega, by omega, ?_⟩
                rw [m3]
                exact ⟨lee rfl (by (repeat (first | exact le_nil | refine le_eq rfl rfl ?_ | refine le_eq rfl (congrArg AV.i (by omega)) ?_))), by (repeat (first | exact lo_nil | refine lo_eq rfl ?_)), rfl, rfl⟩
            · obtain rfl : v = X.length := by omega
              repeat' (first | (apply AOps.nil; try simp only [List.nil_append, List.cons_append, List.set_cons_zero, List.set_cons_succ, List.length_cons, List.length_nil, Nat.reduceAdd, AV.sh, AV.sh1, AV.sh0, AO.sh, List.map_cons, List.map_nil, Nat.zero_add, Nat.add_zero, setAll]) | ((apply AOps.splitP; exact rfl; exact rfl) <;> intro h) | (apply w_move; exact rfl; exact rfl) | (apply w_assign; exact rfl; exact rfl) | apply AWp.seq | apply AWp.region | ((apply AWp.condP; exact rfl) <;> intro h) | (apply AWp.condF; exact rfl) | apply AWp.ret | apply AWp.exit | apply AWp.skip | (apply w_skip; exact rfl) | (apply w_pickT; exact rfl; exact rfl; exact rfl) | (apply w_pickF; exact rfl; exact rfl; exact rfl) | (apply w_len; exact rfl; exact rfl; first | exact .ints _ | exact .intss _ | exact .sli rfl | exact .sls rfl | exact .slr rfl | exact .orow rfl | exact .nil) | omega | ((first | apply w_lss | apply w_eql | apply w_neq); iterate 3 exact rfl) | (apply w_ldst; iterate 5 exact rfl))
              refine AOps.cut (env' := ⟨202, [(0, .ro (byR bs)), (14, .b P), (159, .agg [.ints X, .intss E])]⟩) (os' := []) ?_ ?_
              · (apply Or.inl; refine ⟨lee rfl ?_, ?_, rfl, rfl⟩; (focus ((repeat (first | exact le_nil | refine le_eq rfl rfl ?_)); done)); (focus ((repeat (exact lo_nil)); done)))
              · exact ht.h
          · refine AWp.loop (ι := Unit) (fun _ => ⟨202, [(0, .ro (byR bs)), (3, .optr 0 0), (4, .own 1), (10, .i det), (11, .i 3), (14, .b P), (18, .own 2), (20, .i 1), (21, .i 0), (22, .i 0)]⟩) (fun _ => [.bx 27 [.ints X, .intss E], .sli 2 F, .sli 2 (labF X.length E)]) (fun _ => True) (fun _ => 0) () trivial ⟨lee rfl (by (repeat (first | exact le_nil | refine le_eq rfl rfl ?_))), by (repeat (first | exact lo_nil | refine lo_eq rfl ?_)), rfl, rfl⟩ ?_
            intro _ _
            repeat' (first | (apply AOps.nil; try simp only [List.nil_append, List.cons_append, List.set_cons_zero, List.set_cons_succ, List.length_cons, List.length_nil, Nat.reduceAdd, AV.sh, AV.sh1, AV.sh0, AO.sh, List.map_cons, List.map_nil, Nat.zero_add, Nat.add_zero, setAll]) | ((apply AOps.splitP; exact rfl; exact rfl) <;> intro h) | (apply w_move; exact rfl; exact rfl) | apply AWp.seq | apply AWp.region | ((apply AWp.condP; exact rfl) <;> intro h) | (apply AWp.condF; exact rfl) | apply AWp.block | apply AWp.exit | apply AWp.skip | (apply w_skip; exact rfl) | (apply w_pickT; exact rfl; exact rfl; exact rfl) | (apply w_pickF; exact rfl; exact rfl; exact rfl) | (apply w_len; exact rfl; exact rfl; first | exact .ints _ | exact .intss _ | exact .sli rfl | exact .sls rfl | exact .slr rfl | exact .orow rfl | exact .nil) | omega | ((first | apply w_lss | apply w_eql); iterate 3 exact rfl) | (apply w_ldst; iterate 5 exact rfl))
            all_goals
              refine AOps.cut (env' := ⟨202, [(0, .ro (byR bs)), (14, .b P), (159, .agg [.ints X, .intss E])]⟩) (os' := []) ?_ ?_
              · (apply Or.inl; refine ⟨lee rfl ?_, ?_, rfl, rfl⟩; (focus ((repeat (first | exact le_nil | refine le_eq rfl rfl ?_)); done)); (focus ((repeat (exact lo_nil)); done)))
              · exact ht.h
        have hb7 := below_c bs hl2 hb0 7 (by omega)
        have hml := mx_len X.length (imE X E)
        repeat' (first | (apply AOps.nil; try simp only [List.nil_append, List.cons_append, List.set_cons_zero, List.set_cons_succ, List.length_cons, List.length_nil, Nat.reduceAdd, AV.sh, AV.sh1, AV.sh0, AO.sh, List.map_cons, List.map_nil, Nat.zero_add, Nat.add_zero, setAll]) | (apply w_move; exact rfl; exact rfl) | (apply w_assign; exact rfl; exact rfl) | apply AWp.seq | apply AWp.region | apply AWp.block | (apply w_callm (mb); (focus ((repeat (first | exact im_nil | refine im_cons rfl (im_agg2 (.ints _) (.intss _)) ?_)); done)); rintro r os0 ⟨rfl, rfl⟩; try simp only [List.nil_append, List.cons_append, List.set_cons_zero, List.set_cons_succ, List.length_cons, List.length_nil, Nat.reduceAdd, AV.sh, AV.sh1, AV.sh0, AO.sh, List.map_cons, List.map_nil, Nat.zero_add, Nat.add_zero, setAll]) | (apply w_callsog ((roll_c bs hl2 hb0 5001)); exact rfl; exact rfl; (exact rdB_by _); exact rfl; try simp only [List.nil_append, List.cons_append, List.set_cons_zero, List.set_cons_succ, List.length_cons, List.length_nil, Nat.reduceAdd, AV.sh, AV.sh1, AV.sh0, AO.sh, List.map_cons, List.map_nil, Nat.zero_add, Nat.add_zero, setAll]) | ((apply w_ext); iterate 3 exact rfl) | (apply w_bs0; iterate 1 exact rfl))
        refine AWp.loop (ι := Nat × List Int) (fun s => ⟨202, [(14, .b P), (23, .own 0), (24, .i 0), (25, .optr 1 0), (26, .own 2), (27, .b (anyN s.2)), (28, .i s.1)]⟩) (fun s => [.sls 24 2 (mx X.length (imE X E)), skO 61 bs (.ro (byR bs)), .sli 2 s.2]) (fun s => s.1 ≤ X.length ∧ s.2.length = s.1 ∧ ∀ x ∈ s.2, -3 ≤ x ∧ x ≤ 3) (fun s => X.length - s.1) (0, []) ⟨Nat.zero_le _, rfl, fun x hx => by cases hx⟩ ⟨lee rfl (by (repeat (first | exact le_nil | refine le_eq rfl rfl ?_))), by (repeat (first | exact lo_nil | refine lo_eq rfl ?_)), rfl, rfl⟩ ?_
        rintro ⟨k, xs⟩ ⟨k0, k1, k2⟩
        simp only at k0 k1 k2
        dsimp only
        by_cases hk : k < X.length
        · cases hA : anyN xs with
          | true =>
            repeat' (first | (apply AOps.nil; try simp only [List.nil_append, List.cons_append, List.set_cons_zero, List.set_cons_succ, List.length_cons, List.length_nil, Nat.reduceAdd, AV.sh, AV.sh1, AV.sh0, AO.sh, List.map_cons, List.map_nil, Nat.zero_add, Nat.add_zero, setAll]) | (apply w_move; exact rfl; exact rfl) | (apply w_assign; exact rfl; exact rfl) | apply AWp.seq | apply AWp.region | ((apply AWp.condP; exact rfl) <;> intro h) | apply AWp.block | apply AWp.exit | apply AWp.skip | (apply w_skip; exact rfl) | (apply w_pickT; exact rfl; exact rfl; exact rfl) | (apply w_len; exact rfl; exact rfl; first | exact .ints _ | exact .intss _ | exact .sli rfl | exact .sls rfl | exact .slr rfl | exact .orow rfl | exact .nil) | ((apply w_bs1); iterate 2 exact rfl) | (apply w_callso (hb7); exact rfl; exact rfl; exact rfl; exact rfl; (exact rdB_by _); (rintro _ ⟨x, rfl, hx⟩)) | omega | ((first | apply w_lss | apply w_add | apply w_sub); iterate 3 exact rfl) | (apply w_app; exact rfl; exact rfl; exact rfl; exact rfl; (exact .sli rfl); rotate_left 1; simp only [Env.mp, List.map_cons, List.map_nil, List.set_cons_zero, List.set_cons_succ, AV.kill, AV.kill1, AO.kill, AV.noRow, AV.noRow1, AO.via, reduceIte, Nat.reduceEqDiff, Nat.reduceLT, Env.up, Nat.zero_ne_one, Nat.one_ne_zero, Nat.reduceAdd, List.cons_append, List.nil_append]; rotate_left 1) | (apply inI_of <;> omega) | (simp <;> omega))
            refine ⟨(k + 1, xs ++ [x - 3]), ⟨by simp only; omega, by simp only [List.length_append, List.length_singleton]; omega, snoc3 k2 (by omega)⟩, by simp only; omega, ?_⟩
            dsimp only
            rw [anyN_t hA]
            exact ⟨lee rfl (by (repeat (first | exact le_nil | refine le_eq rfl rfl ?_))), by (repeat (first | exact lo_nil | refine lo_eq rfl ?_)), rfl, rfl⟩
          | false =>
            repeat' (first | (apply AOps.nil; try simp only [List.nil_append, List.cons_append, List.set_cons_zero, List.set_cons_succ, List.length_cons, List.length_nil, Nat.reduceAdd, AV.sh, AV.sh1, AV.sh0, AO.sh, List.map_cons, List.map_nil, Nat.zero_add, Nat.add_zero, setAll]) | (apply w_move; exact rfl; exact rfl) | (apply w_assign; exact rfl; exact rfl) | apply AWp.seq | apply AWp.region | ((apply AWp.condP; exact rfl) <;> intro h) | apply AWp.block | apply AWp.exit | apply AWp.skip | (apply w_pickF; exact rfl; exact rfl; exact rfl) | (apply w_len; exact rfl; exact rfl; first | exact .ints _ | exact .intss _ | exact .sli rfl | exact .sls rfl | exact .slr rfl | exact .orow rfl | exact .nil) | ((apply w_bs1); iterate 2 exact rfl) | (apply w_callso (hb7); exact rfl; exact rfl; exact rfl; exact rfl; (exact rdB_by _); (rintro _ ⟨x, rfl, hx⟩)) | omega | ((first | apply w_lss | apply w_neq | apply w_add | apply w_sub | apply w_idx | apply w_ld); iterate 3 exact rfl) | (apply w_idxo; exact rfl; exact rfl; (exact .sli rfl); exact rfl) | (apply w_ldo; iterate 4 exact rfl) | (apply w_app; exact rfl; exact rfl; exact rfl; exact rfl; (exact .sli rfl); rotate_left 1; simp only [Env.mp, List.map_cons, List.map_nil, List.set_cons_zero, List.set_cons_succ, AV.kill, AV.kill1, AO.kill, AV.noRow, AV.noRow1, AO.via, reduceIte, Nat.reduceEqDiff, Nat.reduceLT, Env.up, Nat.zero_ne_one, Nat.one_ne_zero, Nat.reduceAdd, List.cons_append, List.nil_append]; rotate_left 1) | (apply inI_of <;> omega) | (simp <;> omega))
            refine ⟨(k + 1, xs ++ [x - 3]), ⟨by simp only; omega, by simp only [List.length_append, List.length_singleton]; omega, snoc3 k2 (by omega)⟩, by simp only; omega, ?_⟩
            dsimp only
            rw [anyN_f hA k1]
            exact ⟨lee rfl (by (repeat (first | exact le_nil | refine le_eq rfl rfl ?_))), by (repeat (first | exact lo_nil | refine lo_eq rfl ?_)), rfl, rfl⟩
        · obtain rfl : k = X.length := by omega
          have hx3 : ∀ i : Int, -3 ≤ geti xs i ∧ geti xs i ≤ 3 := fun i => by
            unfold geti
            rw [List.getD_eq_getElem?_getD]
            cases hx : xs[i.toNat]? with
            | none => simp
            | some x => exact k2 x (List.mem_of_getElem? hx)
          have hf9 := form9_c X.length (imE X E) xs hXl k1 hx3 fun a b => by
            unfold imE
            split
            · exact within_geti hok.w _
            · split <;> omega
          have hq : P = true → anyN xs = true → fS (imE X E) xs X.length X.length < 0 := fun hp ha => by
            rw [form_eq hFst]
            obtain ⟨y, h1, h2⟩ := anyN_ex ha
            exact hneg hp (geti xs) ⟨(y : Nat), by omega, h2⟩
          generalize fS (imE X E) xs X.length X.length = q at *
          cases P with
          | false =>
            repeat' (first | (apply AOps.nil; try simp only [List.nil_append, List.cons_append, List.set_cons_zero, List.set_cons_succ, List.length_cons, List.length_nil, Nat.reduceAdd, AV.sh, AV.sh1, AV.sh0, AO.sh, List.map_cons, List.map_nil, Nat.zero_add, Nat.add_zero, setAll]) | ((apply AOps.splitP; exact rfl; exact rfl) <;> intro h) | (apply w_move; exact rfl; exact rfl) | (apply w_assign; exact rfl; exact rfl) | apply AWp.seq | apply AWp.region | ((apply AWp.condP; exact rfl) <;> intro h) | apply AWp.block | apply AWp.ret | apply AWp.exit | apply AWp.skip | (apply w_skip; exact rfl) | (apply w_pickT; exact rfl; exact rfl; exact rfl) | (apply w_pickF; exact rfl; exact rfl; exact rfl) | (apply w_len; exact rfl; exact rfl; first | exact .ints _ | exact .intss _ | exact .sli rfl | exact .sls rfl | exact .slr rfl | exact .orow rfl | exact .nil) | ((apply w_not); iterate 2 exact rfl) | omega | ((first | apply w_lss | apply w_eql); iterate 3 exact rfl))
            all_goals exact .bool Try.results3 rfl rfl
          | true =>
            cases hA : anyN xs with
            | false =>
              repeat' (first | (apply AOps.nil; try simp only [List.nil_append, List.cons_append, List.set_cons_zero, List.set_cons_succ, List.length_cons, List.length_nil, Nat.reduceAdd, AV.sh, AV.sh1, AV.sh0, AO.sh, List.map_cons, List.map_nil, Nat.zero_add, Nat.add_zero, setAll]) | ((apply AOps.splitP; exact rfl; exact rfl) <;> intro h) | (apply w_move; exact rfl; exact rfl) | (apply w_assign; exact rfl; exact rfl) | apply AWp.seq | apply AWp.region | ((apply AWp.condP; exact rfl) <;> intro h) | apply AWp.block | apply AWp.ret | apply AWp.exit | apply AWp.skip | (apply w_skip; exact rfl) | (apply w_pickT; exact rfl; exact rfl; exact rfl) | (apply w_pickF; exact rfl; exact rfl; exact rfl) | (apply w_len; exact rfl; exact rfl; first | exact .ints _ | exact .intss _ | exact .sli rfl | exact .sls rfl | exact .slr rfl | exact .orow rfl | exact .nil) | ((apply w_not); iterate 2 exact rfl) | omega | ((first | apply w_lss | apply w_eql); iterate 3 exact rfl))
              all_goals exact .bool Try.results3 rfl rfl
            | true =>
              have hq2 := hq rfl hA
              repeat' (first | (apply AOps.nil; try simp only [List.nil_append, List.cons_append, List.set_cons_zero, List.set_cons_succ, List.length_cons, List.length_nil, Nat.reduceAdd, AV.sh, AV.sh1, AV.sh0, AO.sh, List.map_cons, List.map_nil, Nat.zero_add, Nat.add_zero, setAll]) | ((apply AOps.splitP; exact rfl; exact rfl) <;> intro h) | (apply w_move; exact rfl; exact rfl) | (apply w_assign; exact rfl; exact rfl) | apply AWp.seq | apply AWp.region | ((apply AWp.condP; exact rfl) <;> intro h) | apply AWp.block | apply AWp.ret | apply AWp.exit | apply AWp.skip | (apply w_skip; exact rfl) | (apply w_pickT; exact rfl; exact rfl; exact rfl) | (apply w_pickF; exact rfl; exact rfl; exact rfl) | (apply w_len; exact rfl; exact rfl; first | exact .ints _ | exact .intss _ | exact .sli rfl | exact .sls rfl | exact .slr rfl | exact .orow rfl | exact .nil) | ((apply w_not); iterate 2 exact rfl) | (apply w_call (hf9); exact rfl; exact rfl; focus ((repeat (first | exact im_nil | refine im_cons rfl (.sli rfl) ?_ | refine im_cons rfl (.sls rfl) ?_)); done)) | omega | ((first | apply w_lss | apply w_eql); iterate 3 exact rfl))
              all_goals exact .bool Try.results3 rfl (decide_eq_true hq2)
  · obtain ⟨c, hc, i1, s1, n1⟩ : ∃ c : Int, c ≠ 0 ∧ AFnV Try.prog 6 [.agg [.ints X, .intss E]] (.tuple #[.slice none 0 0, .slice none 0 0, .int .i64 c]) ∧ AFnV Try.prog 7 [.agg [.ints X, .intss E]] (.tuple #[.slice none 0 0, .slice none 0 0, .int .i64 c]) ∧ AFnV Try.prog 11 [.agg [.ints X, .intss E]] (.tuple #[.bool false, .int .i64 c]) := by
      cases h : gok X E with
      | false => exact ⟨1, by omega, implBranch_bad X E h, specBranch_bad X E h, implNegDef_bad X E h⟩
      | true => exact ⟨3, by omega, implBranch_lim X E h fun h2 => hB ⟨h, h2⟩, specBranch_lim X E h fun h2 => hB ⟨h, h2⟩, implNegDef_lim X E h fun h2 => hB ⟨h, h2⟩⟩
    generalize (gdC X E).1 = b at *
    generalize (gdC X E).2 = e at *
    repeat' (first | (apply AOps.nil; try simp only [List.nil_append, List.cons_append, List.set_cons_zero, List.set_cons_succ, List.length_cons, List.length_nil, Nat.reduceAdd, AV.sh, AV.sh1, AV.sh0, AO.sh, List.map_cons, List.map_nil, Nat.zero_add, Nat.add_zero, setAll]) | ((apply AOps.splitP; exact rfl; exact rfl) <;> intro h) | (apply w_move; exact rfl; exact rfl) | (apply w_assign; exact rfl; exact rfl) | apply AWp.seq | apply AWp.region | ((apply AWp.condP; exact rfl) <;> intro h) | (apply AWp.condT; exact rfl) | (apply AWp.condF; exact rfl) | apply AWp.block | apply AWp.ret | apply AWp.skip | (apply w_skip; exact rfl) | (apply w_pickT; exact rfl; exact rfl; exact rfl) | (apply w_pickF; exact rfl; exact rfl; exact rfl) | ((apply w_not); iterate 2 exact rfl) | (apply w_call (i1); exact rfl; exact rfl; focus ((repeat (first | exact im_nil | refine im_cons rfl (im_agg2 (.ints _) (.intss _)) ?_)); done)) | (apply w_call (s1); exact rfl; exact rfl; focus ((repeat (first | exact im_nil | refine im_cons rfl (im_agg2 (.ints _) (.intss _)) ?_)); done)) | (apply w_call (n1); exact rfl; exact rfl; focus ((repeat (first | exact im_nil | refine im_cons rfl (im_agg2 (.ints _) (.intss _)) ?_)); done)) | (apply w_call (d1); exact rfl; exact rfl; focus ((repeat (first | exact im_nil | refine im_cons rfl (im_agg2 (.ints _) (.intss _)) ?_)); done)) | (apply w_call (d2); exact rfl; exact rfl; focus ((repeat (first | exact im_nil | refine im_cons rfl (im_agg2 (.ints _) (.intss _)) ?_)); done)) | (apply w_call (hln); exact rfl; exact rfl; focus ((repeat (first | exact im_nil | refine im_cons rfl (.nil) ?_)); done)) | omega | ((first | apply w_eql | apply w_neq | apply w_extv); iterate 3 exact rfl) | (apply w_ldst; iterate 5 exact rfl))
    all_goals exact .bool Try.results3 rfl rfl
end Go.Proofs.Ythjkpmjdkcainaa
