/-
  Parts of the proof, one behind the other: contracts of functions and plain laws. No condition.
-/
import Derived.Test.YtifkgmbghcmdeaaPt4IsNondegener
/-
  Nondegenerate polynomials: the reference. No condition.
-/
namespace Go.Proofs.Ytifkgmbghcmdeaa
open Go Go.RowKit
attribute [local irreducible] AWp AOps ResIs Ret1 QOp LOp COp AFnV AFn Imms LeE LeO
set_option maxHeartbeats 1000000
set_option linter.unusedSimpArgs false
set_option linter.unusedVariables false

/-- The derivative as the reference makes it, after k coefficients. -/
def dvS (f V E : List (List Int)) (n k : Nat) : List Int := (List.range (k - 1)).map fun i => ((i + 1 : Nat) : Int) * cof f (ndA V E n (i + 1)) (ndB V E n (i + 1)) % 55441
theorem dvS_len (f V E : List (List Int)) (n k : Nat) : (dvS f V E n k).length = k - 1 := by simp [dvS]
theorem dvS_zero (f V E : List (List Int)) (n : Nat) : dvS f V E n 0 = dvS f V E n (0 + 1) := rfl
theorem dvS_succ (f V E : List (List Int)) (n k : Nat) : dvS f V E n (k + 1) ++ [((k + 1 : Nat) : Int) * cof f (ndA V E n (k + 1)) (ndB V E n (k + 1)) % 55441] = dvS f V E n (k + 1 + 1) := by simp [dvS, List.range_succ]
theorem dvS_eq (f V E : List (List Int)) (n k : Nat) : dvS f V E n k = dvL (ndH f V E n k) := by
  unfold dvS dvL dvN
  rw [ndH_len]
  apply List.map_congr_left
  intro i hi
  have hi' := List.mem_range.1 hi
  have e : geti ((ndH f V E n k).drop 1) (i : Nat) = cof f (ndA V E n (i + 1)) (ndB V E n (i + 1)) := by
    rw [← ndH_get f V E n k (i + 1) (by omega)]
    unfold geti
    rw [Int.toNat_natCast, Int.toNat_natCast]
    simp [List.getD_eq_getElem?_getD, List.getElem?_drop, Nat.add_comm]
  rw [e, Int.mul_comm]
  rfl
theorem nd_dv {f : List (List Int)} (hp : isPo f = true) (h : NdI f) {n : Nat} (hn : n < (ndE f).length) : (tr (dvL (ndP f (ndV f) (ndE f) n))).length ≠ 0 := by
  have hl := ndP_len h hn
  have hg := h.g n hn
  have hz := h.z n hn
  have hc := cof_in hp (ndA (ndV f) (ndE f) n (egN (ndE f) n).toNat) (ndB (ndV f) (ndE f) n (egN (ndE f) n).toNat)
  have e1 : (dvL (ndP f (ndV f) (ndE f) n)).length = (egN (ndE f) n).toNat := by unfold dvL; rw [dvN_len]; omega
  have ht : Tm (dvL (ndP f (ndV f) (ndE f) n)) := by
    right
    rw [e1]
    unfold ndP
    rw [← dvS_eq]
    have e2 : geti (dvS f (ndV f) (ndE f) n (egN (ndE f) n + 1).toNat) (((egN (ndE f) n).toNat - 1 : Nat) : Int) = (((egN (ndE f) n).toNat - 1 + 1 : Nat) : Int) * cof f (ndA (ndV f) (ndE f) n ((egN (ndE f) n).toNat - 1 + 1)) (ndB (ndV f) (ndE f) n ((egN (ndE f) n).toNat - 1 + 1)) % 55441 := by
      unfold geti dvS
      rw [Int.toNat_natCast, List.getD_eq_getElem?_getD, List.getElem?_map, List.getElem?_range (by omega)]
      rfl
    rw [e2, show (egN (ndE f) n).toNat - 1 + 1 = (egN (ndE f) n).toNat by omega]
    exact nz_mul (by omega) (by omega)
  rw [tr_tm ht, e1]
  omega
theorem nd_sqR (P : List Int) (h : (tr (dvL P)).length ≠ 0) : euF (tr (dvL P)).length (tr P) (tr (dvL P)) = sqR P := by
  unfold sqR
  obtain ⟨z, hz⟩ : ∃ z, (tr (dvL P)).length = z + 1 := ⟨(tr (dvL P)).length - 1, by omega⟩
  rw [hz]
  exact euF_tr h z

set_option maxHeartbeats 8000000 in
theorem specNd_c (f : List (List Int)) : AFnV Try.prog 33 [.agg [.intss f]] (.tuple #[.bool (ndR f), .int .i64 (poE f)]) := by
  have q1 := l17Some_c f
  by_cases hE : poE f ≠ 0
  · have e2 : ndR f = false := by unfold ndR; rw [decide_eq_false hE]; rfl
    have hb : 0 ≤ poE f ∧ poE f ≤ 5 := by unfold poE; repeat' split <;> omega
    rw [e2]
    (refine AFnV.start Try.func33 Try.ntmps33 rfl (by kernel_rfl) fun hk => ?_; simp only [Env.start, enumF, List.length_cons, List.length_nil, Nat.reduceAdd, Nat.reduceSub, List.cons_append, List.nil_append])
    repeat' (first | (apply AOps.nil; try simp only [List.nil_append, List.cons_append, List.set_cons_zero, List.set_cons_succ, List.length_cons, List.length_nil, Nat.reduceAdd, AV.sh, AV.sh1, AV.sh0, AO.sh, List.map_cons, List.map_nil, Nat.zero_add, Nat.add_zero, setAll]) | (apply w_move; exact rfl; exact rfl) | (apply w_assign; exact rfl; exact rfl) | apply AWp.seq | apply AWp.region | ((apply AWp.condP; exact rfl) <;> intro h) | apply AWp.ret | apply AWp.skip | (apply w_call (q1); exact rfl; exact rfl; focus ((repeat (first | exact im_nil | refine im_cons rfl (im_agg1 (.intss _)) ?_)); done)) | omega | ((apply w_neq); iterate 3 exact rfl) | ((apply w_boxa); iterate 2 exact rfl) | (apply w_ldst; iterate 5 exact rfl))
    all_goals exact .boolint Try.results33 rfl rfl rfl rfl
  have hE : poE f = 0 := Decidable.not_not.1 hE
  have hpo : isPo f = true := by
    unfold poE at hE
    split at hE
    · assumption
    · omega
  have h0 : ¬ f.length = 0 := fun h => by unfold poE at hE; rw [if_pos hpo, if_pos h] at hE; omega
  rw [hE] at q1
  have hi := nd_ok hpo (by omega)
  have hpl := (isPo_of hpo).1
  have hco : AFn Try.prog 63 [.intss (supL f f.length)] (IsIntss 22 2 (ndV f)) :=
    l15Vertices_c _ (by rw [supL_len]; omega) (by rw [supL_len]; omega) fun r hr => by
      have := sup_row hpo r hr
      unfold PB
      omega
  have hed := l15Edges_c (B := 60) (by omega) (ndV f) hi.v
  change AFn Try.prog 65 [.intss (ndV f)] (IsIntss 22 2 (ndE f)) at hed
  have e2 : ndR f = (List.range (ndE f).length).all fun n => ndK f (ndV f) (ndE f) n := by unfold ndR; rw [hE]; rfl
  rw [hE, e2]
  have hvl := hi.v.len
  have hel : (ndE f).length = (ndV f).length - 1 := by unfold ndE; rw [edL_len]
  have heI := hi.e
  have hgI := hi.g
  have hvI := hi.v.at
  have hPl := @ndP_len f hi
  have hPt := @ndP_last f hi
  have hdv := @nd_dv f hpo hi
  clear hi
  generalize ndV f = V at *
  generalize ndE f = E at *
  (refine AFnV.start Try.func33 Try.ntmps33 rfl (by kernel_rfl) fun hk => ?_; simp only [Env.start, enumF, List.length_cons, List.length_nil, Nat.reduceAdd, Nat.reduceSub, List.cons_append, List.nil_append])
  repeat' (first | (apply AOps.nil; try simp only [List.nil_append, List.cons_append, List.set_cons_zero, List.set_cons_succ, List.length_cons, List.length_nil, Nat.reduceAdd, AV.sh, AV.sh1, AV.sh0, AO.sh, List.map_cons, List.map_nil, Nat.zero_add, Nat.add_zero, setAll]) | (apply w_move; exact rfl; exact rfl) | (apply w_assign; exact rfl; exact rfl) | apply AWp.seq | apply AWp.region | ((apply AWp.condP; exact rfl) <;> intro h) | apply AWp.block | apply AWp.ret | apply AWp.skip | (apply w_call (q1); exact rfl; exact rfl; focus ((repeat (first | exact im_nil | refine im_cons rfl (im_agg1 (.intss _)) ?_)); done)) | (apply w_callm (l17Support_c f hpo); (focus ((repeat (first | exact im_nil | refine im_cons rfl (im_agg1 (.intss _)) ?_)); done)); rintro r os0 ⟨rfl, rfl⟩; try simp only [List.nil_append, List.cons_append, List.set_cons_zero, List.set_cons_succ, List.length_cons, List.length_nil, Nat.reduceAdd, AV.sh, AV.sh1, AV.sh0, AO.sh, List.map_cons, List.map_nil, Nat.zero_add, Nat.add_zero, setAll]) | (apply w_callm (hco); (focus ((repeat (first | exact im_nil | refine im_cons rfl (.sls rfl) ?_)); done)); rintro r os0 ⟨rfl, rfl⟩; try simp only [List.nil_append, List.cons_append, List.set_cons_zero, List.set_cons_succ, List.length_cons, List.length_nil, Nat.reduceAdd, AV.sh, AV.sh1, AV.sh0, AO.sh, List.map_cons, List.map_nil, Nat.zero_add, Nat.add_zero, setAll]) | (apply w_callm (hed); (focus ((repeat (first | exact im_nil | refine im_cons rfl (.sls rfl) ?_)); done)); rintro r os0 ⟨rfl, rfl⟩; try simp only [List.nil_append, List.cons_append, List.set_cons_zero, List.set_cons_succ, List.length_cons, List.length_nil, Nat.reduceAdd, AV.sh, AV.sh1, AV.sh0, AO.sh, List.map_cons, List.map_nil, Nat.zero_add, Nat.add_zero, setAll]) | omega | ((apply w_neq); iterate 3 exact rfl) | ((apply w_boxa); iterate 2 exact rfl) | (apply w_ldst; iterate 5 exact rfl))
  refine AWp.loop (ι := Nat) (fun n => ⟨116, [(1, .optr 0 0), (5, .own 2), (6, .own 3), (7, .i n)]⟩) (fun n => [.bx 50 [.intss f], .sls 22 2 (supL f f.length), .sls 22 2 V, .sls 22 2 E]) (fun n => n ≤ E.length ∧ ∀ j, j < n → ndK f V E j = true) (fun n => E.length - n) 0 ⟨by omega, fun j hj => by omega⟩ ⟨lee rfl (by (repeat (first | exact le_nil | refine le_eq rfl rfl ?_))), by (repeat (first | exact lo_nil | refine lo_eq rfl ?_)), rfl, rfl⟩ ?_
  rintro n ⟨n0, n1⟩
  by_cases hn : n < E.length
  · obtain ⟨p0, p1, p2, p3⟩ := heI n hn
    have g1 := hgI n hn
    obtain ⟨v1, v2, v3⟩ := hvI n (by omega)
    have v1' : (V.getD (n : Int).toNat []).length = 2 := v1
    have v2' : 0 ≤ geti (V.getD (n : Int).toNat []) ((Int.toNat 0 : Nat) : Int) ∧ geti (V.getD (n : Int).toNat []) ((Int.toNat 0 : Nat) : Int) ≤ 60 := v2
    have v3' : 0 ≤ geti (V.getD (n : Int).toNat []) ((Int.toNat 1 : Nat) : Int) ∧ geti (V.getD (n : Int).toNat []) ((Int.toNat 1 : Nat) : Int) ≤ 60 := v3
    have cg := l01Gcd_c (geti (E.getD (n : Int).toNat []) ((Int.toNat 0 : Nat) : Int)) (geti (E.getD (n : Int).toNat []) ((Int.toNat 1 : Nat) : Int)) (by unfold mid; omega) (by unfold mid; omega)
    have eg : ((Int.gcd (geti (E.getD (n : Int).toNat []) ((Int.toNat 0 : Nat) : Int)) (geti (E.getD (n : Int).toNat []) ((Int.toNat 1 : Nat) : Int)) : Nat) : Int) = egN E n := rfl
    rw [eg] at cg
    repeat' (first | (apply AOps.nil; try simp only [List.nil_append, List.cons_append, List.set_cons_zero, List.set_cons_succ, List.length_cons, List.length_nil, Nat.reduceAdd, AV.sh, AV.sh1, AV.sh0, AO.sh, List.map_cons, List.map_nil, Nat.zero_add, Nat.add_zero, setAll]) | (apply w_move; exact rfl; exact rfl) | (apply w_assign; exact rfl; exact rfl) | apply AWp.seq | apply AWp.region | ((apply AWp.condP; exact rfl) <;> intro h) | apply AWp.block | apply AWp.ret | apply AWp.exit | apply AWp.skip | (apply AWp.regionQ; kernel_rfl; kernel_rfl) | (apply w_len; exact rfl; exact rfl; first | exact .ints _ | exact .intss _ | exact .sli rfl | exact .sls rfl | exact .slr rfl | exact .orow rfl | exact .nil) | (apply w_call (cg); exact rfl; exact rfl; focus ((repeat (first | exact im_nil | refine im_cons rfl (.val _) ?_)); done)) | omega | ((first | apply w_lss | apply w_idx | apply w_ld); iterate 3 exact rfl) | (apply w_idxo; exact rfl; exact rfl; (exact .sls rfl); exact rfl) | ((first | apply w_idxr | apply w_ldr); iterate 4 exact rfl) | (apply w_ldls; iterate 4 exact rfl) | (apply w_ldrp; iterate 4 exact rfl) | (apply w_bs0; iterate 1 exact rfl))
    refine AWp.loop (ι := Nat) (fun k => ⟨116, [(1, .optr 0 0), (5, .own 2), (6, .own 3), (7, .i n), (8, .i (egN E n)), (9, .own 4), (10, .own 5), (11, .i k)]⟩) (fun k => [.bx 50 [.intss f], .sls 22 2 (supL f f.length), .sls 22 2 V, .sls 22 2 E, .sli 2 (ndH f V E n k), .sli 2 (dvS f V E n k)]) (fun k => (k : Int) ≤ egN E n + 1) (fun k => (egN E n + 1).toNat - k) 0 (by omega) ⟨lee rfl (by (repeat (first | exact le_nil | refine le_eq rfl rfl ?_))), by (repeat (first | exact lo_nil | refine lo_eq rfl ?_)), rfl, rfl⟩ ?_
    rintro k k0
    have hhl := ndH_len f V E n k
    have hdl := dvS_len f V E n k
    by_cases hk1 : (k : Int) < egN E n + 1
    · have m1 := mul60 (m := (k : Int)) (x := geti (E.getD (n : Int).toNat []) ((Int.toNat 0 : Nat) : Int)) (e := egN E n) (by omega) p2 g1.1
      have m2 := mul60 (m := (k : Int)) (x := geti (E.getD (n : Int).toNat []) ((Int.toNat 1 : Nat) : Int)) (e := egN E n) (by omega) p3 g1.1
      have hlk := cof_in hpo (ndA V E n k) (ndB V E n k)
      have hat := l17At_c f hpo (ndA V E n k) (ndB V E n k)
      have e3 := ndH_succ f V E n k
      cases k with
      | zero =>
        generalize hcc : cof f (ndA V E n 0) (ndB V E n 0) = c at hat hlk e3
        unfold ndA ndB at hat
        have e4 := dvS_zero f V E n
        repeat' (first | (apply AOps.nil; try simp only [List.nil_append, List.cons_append, List.set_cons_zero, List.set_cons_succ, List.length_cons, List.length_nil, Nat.reduceAdd, AV.sh, AV.sh1, AV.sh0, AO.sh, List.map_cons, List.map_nil, Nat.zero_add, Nat.add_zero, setAll]) | (apply w_move; exact rfl; exact rfl) | (apply w_assign; exact rfl; exact rfl) | apply AWp.seq | apply AWp.region | ((apply AWp.condP; exact rfl) <;> intro h) | apply AWp.block | apply AWp.exit | apply AWp.skip | (apply AWp.regionQ; kernel_rfl; kernel_rfl) | (apply w_call (hat); exact rfl; exact rfl; focus ((repeat (first | exact im_nil | refine im_cons rfl (.val _) ?_ | refine im_cons rfl (im_agg1 (.intss _)) ?_)); done)) | omega | ((first | apply w_leq | apply w_gtr | apply w_add | apply w_sub | apply w_mul | apply w_idx | apply w_ld); iterate 3 exact rfl) | (apply w_quo; exact rfl; exact rfl; exact rfl; (focus (omega; done)); (focus (omega; done))) | ((apply w_bs1); iterate 2 exact rfl) | (apply w_idxo; exact rfl; exact rfl; (exact .sls rfl); exact rfl) | ((first | apply w_idxr | apply w_ldr); iterate 4 exact rfl) | (apply w_ldls; iterate 4 exact rfl) | (apply w_ldrp; iterate 4 exact rfl) | (apply w_ldst; iterate 5 exact rfl) | (apply w_app; exact rfl; exact rfl; exact rfl; exact rfl; (exact .sli rfl); rotate_left 1; simp only [Env.mp, List.map_cons, List.map_nil, List.set_cons_zero, List.set_cons_succ, AV.kill, AV.kill1, AO.kill, AV.noRow, AV.noRow1, AO.via, reduceIte, Nat.reduceEqDiff, Nat.reduceLT, Env.up, Nat.zero_ne_one, Nat.one_ne_zero, Nat.reduceAdd, List.cons_append, List.nil_append]; rotate_left 1) | (apply inI_of <;> omega) | (simp <;> omega))
        exact ⟨0 + 1, by omega, by omega, ⟨lee rfl (by (repeat (first | exact le_nil | refine le_eq rfl rfl ?_))), by (repeat (first | exact lo_nil | refine lo_eq rfl ?_ | refine lo_eq (congrArg (AO.sli _) (e3)) ?_)), rfl, rfl⟩⟩
      | succ k =>
        have e4 := dvS_succ f V E n k
        have hmm : 0 ≤ ((k + 1 : Nat) : Int) * cof f (ndA V E n (k + 1)) (ndB V E n (k + 1)) ∧ ((k + 1 : Nat) : Int) * cof f (ndA V E n (k + 1)) (ndB V E n (k + 1)) ≤ 61 * 55440 := ⟨Int.mul_nonneg (by omega) hlk.1, Int.mul_le_mul (by omega) hlk.2 hlk.1 (by omega)⟩
        generalize hcc : cof f (ndA V E n (k + 1)) (ndB V E n (k + 1)) = c at hat hlk e3 e4 hmm
        unfold ndA ndB at hat
        repeat' (first | (apply AOps.nil; try simp only [List.nil_append, List.cons_append, List.set_cons_zero, List.set_cons_succ, List.length_cons, List.length_nil, Nat.reduceAdd, AV.sh, AV.sh1, AV.sh0, AO.sh, List.map_cons, List.map_nil, Nat.zero_add, Nat.add_zero, setAll]) | (apply w_move; exact rfl; exact rfl) | (apply w_assign; exact rfl; exact rfl) | apply AWp.seq | apply AWp.region | ((apply AWp.condP; exact rfl) <;> intro h) | apply AWp.block | apply AWp.exit | apply AWp.skip | (apply AWp.regionQ; kernel_rfl; kernel_rfl) | (apply w_call (hat); exact rfl; exact rfl; focus ((repeat (first | exact im_nil | refine im_cons rfl (.val _) ?_ | refine im_cons rfl (im_agg1 (.intss _)) ?_)); done)) | omega | ((first | apply w_leq | apply w_gtr | apply w_add | apply w_sub | apply w_mul | apply w_idx | apply w_ld); iterate 3 exact rfl) | (apply w_rem; exact rfl; exact rfl; exact rfl; (focus (omega; done)); (focus (omega; done))) | (apply w_quo; exact rfl; exact rfl; exact rfl; (focus (omega; done)); (focus (omega; done))) | ((apply w_bs1); iterate 2 exact rfl) | (apply w_idxo; exact rfl; exact rfl; (exact .sls rfl); exact rfl) | ((first | apply w_idxr | apply w_ldr); iterate 4 exact rfl) | (apply w_ldls; iterate 4 exact rfl) | (apply w_ldrp; iterate 4 exact rfl) | (apply w_ldst; iterate 5 exact rfl) | (apply w_app; exact rfl; exact rfl; exact rfl; exact rfl; (exact .sli rfl); rotate_left 1; simp only [Env.mp, List.map_cons, List.map_nil, List.set_cons_zero, List.set_cons_succ, AV.kill, AV.kill1, AO.kill, AV.noRow, AV.noRow1, AO.via, reduceIte, Nat.reduceEqDiff, Nat.reduceLT, Env.up, Nat.zero_ne_one, Nat.one_ne_zero, Nat.reduceAdd, List.cons_append, List.nil_append]; rotate_left 1) | (apply inI_of <;> omega) | (simp <;> omega))
        exact ⟨k + 1 + 1, by omega, by omega, ⟨lee rfl (by (repeat (first | exact le_nil | refine le_eq rfl rfl ?_))), by (repeat (first | exact lo_nil | refine lo_eq rfl ?_ | refine lo_eq (congrArg (AO.sli _) (e3)) ?_ | refine lo_eq (congrArg (AO.sli _) (e4)) ?_)), rfl, rfl⟩⟩
    · have ek : k = (egN E n + 1).toNat := by omega
      subst ek
      rw [dvS_eq]
      rw [dvS_eq] at hdl
      have hP := hPl hn
      have hT := hPt hn
      have hD := hdv hn
      have hI := ndH_in hpo V E n (egN E n + 1).toNat
      have hK : ndK f V E n = decide ((sqR (ndP f V E n)).length = 1) := rfl
      change ((ndP f V E n).length : Int) = egN E n + 1 at hP
      unfold ndP at hP hT hD hK
      generalize ndH f V E n (egN E n + 1).toNat = P at *
      have hdi : inF (dvL P) := dvN_in _ _
      have hR := nd_sqR P hD
      have t1 := l17Trim_c P (by omega)
      have t2 := l17Trim_c (dvL P) (by omega)
      have hle := tr_le P
      have hle2 := tr_le (dvL P)
      have hpt := tm_pos hT (by omega)
      repeat' (first | (apply AOps.nil; try simp only [List.nil_append, List.cons_append, List.set_cons_zero, List.set_cons_succ, List.length_cons, List.length_nil, Nat.reduceAdd, AV.sh, AV.sh1, AV.sh0, AO.sh, List.map_cons, List.map_nil, Nat.zero_add, Nat.add_zero, setAll]) | (apply w_move; exact rfl; exact rfl) | (apply w_assign; exact rfl; exact rfl) | apply AWp.seq | apply AWp.region | ((apply AWp.condP; exact rfl) <;> intro h) | apply AWp.block | apply AWp.exit | apply AWp.skip | (apply w_callm (t1); (focus ((repeat (first | exact im_nil | refine im_cons rfl (.sli rfl) ?_)); done)); rintro r os0 ⟨rfl, rfl⟩; try simp only [List.nil_append, List.cons_append, List.set_cons_zero, List.set_cons_succ, List.length_cons, List.length_nil, Nat.reduceAdd, AV.sh, AV.sh1, AV.sh0, AO.sh, List.map_cons, List.map_nil, Nat.zero_add, Nat.add_zero, setAll]) | (apply w_callm (t2); (focus ((repeat (first | exact im_nil | refine im_cons rfl (.sli rfl) ?_)); done)); rintro r os0 ⟨rfl, rfl⟩; try simp only [List.nil_append, List.cons_append, List.set_cons_zero, List.set_cons_succ, List.length_cons, List.length_nil, Nat.reduceAdd, AV.sh, AV.sh1, AV.sh0, AO.sh, List.map_cons, List.map_nil, Nat.zero_add, Nat.add_zero, setAll]) | omega | ((apply w_leq); iterate 3 exact rfl))
      refine AWp.loopS (ι := List Int × List Int) (fun s => ⟨116, [(1, .optr 0 0), (5, .own 2), (6, .own 3), (7, .i n), (13, .own 6), (14, .own 7)]⟩) (fun s => [.bx 50 [.intss f], .sls 22 2 (supL f f.length), .sls 22 2 V, .sls 22 2 E, .dead, .dead, .sli 2 s.1, .sli 2 s.2]) (fun s => inF s.1 ∧ inF s.2 ∧ Tm s.2 ∧ s.1.length ≤ 1000 ∧ s.2.length ≤ 1000 ∧ s.1.length ≠ 0 ∧ euF s.2.length s.1 s.2 = sqR P) (fun s => s.2.length) (tr P, tr (dvL P))
        ⟨inF_tr hI, inF_tr hdi, tm_tr _, by simp only; omega, by simp only; omega, by simp only; omega, hR⟩ ⟨lee rfl (by (repeat (first | exact le_nil | refine le_eq rfl rfl ?_))), by (repeat (first | exact lo_nil | refine lo_dead ?_ | refine lo_eq rfl ?_)), rfl, rfl⟩ ?_
      rintro ⟨a, b⟩ ⟨a1, a2, a3, a4, a5, a6, a7⟩
      simp only at a1 a2 a3 a4 a5 a6 a7
      by_cases hb0 : b.length = 0
      · rw [euF_done hb0] at a7
        by_cases ha1 : a.length = 1
        · repeat' (first | (apply AOps.nil; try simp only [List.nil_append, List.cons_append, List.set_cons_zero, List.set_cons_succ, List.length_cons, List.length_nil, Nat.reduceAdd, AV.sh, AV.sh1, AV.sh0, AO.sh, List.map_cons, List.map_nil, Nat.zero_add, Nat.add_zero, setAll]) | (apply w_move; exact rfl; exact rfl) | (apply w_assign; exact rfl; exact rfl) | apply AWp.seq | apply AWp.region | ((apply AWp.condP; exact rfl) <;> intro h) | apply AWp.block | apply AWp.ret | apply AWp.exit | apply AWp.skip | (apply w_len; exact rfl; exact rfl; first | exact .ints _ | exact .intss _ | exact .sli rfl | exact .sls rfl | exact .slr rfl | exact .orow rfl | exact .nil) | omega | ((first | apply w_gtr | apply w_add); iterate 3 exact rfl) | (apply inI_of <;> omega))
          refine ⟨n + 1, ⟨hn, fun j hj => ?_⟩, by omega, ⟨lee rfl (by (repeat (first | exact le_nil | refine le_eq rfl rfl ?_))), by (repeat (first | exact lo_nil | refine lo_eq rfl ?_)), rfl, rfl⟩⟩
          by_cases ej : j = n
          · subst ej; rw [hK, ← a7]; simp [ha1]
          · exact n1 j (by omega)
        · repeat' (first | (apply AOps.nil; try simp only [List.nil_append, List.cons_append, List.set_cons_zero, List.set_cons_succ, List.length_cons, List.length_nil, Nat.reduceAdd, AV.sh, AV.sh1, AV.sh0, AO.sh, List.map_cons, List.map_nil, Nat.zero_add, Nat.add_zero, setAll]) | (apply w_move; exact rfl; exact rfl) | (apply w_assign; exact rfl; exact rfl) | apply AWp.seq | apply AWp.region | ((apply AWp.condP; exact rfl) <;> intro h) | apply AWp.block | apply AWp.ret | apply AWp.exit | apply AWp.skip | (apply w_len; exact rfl; exact rfl; first | exact .ints _ | exact .intss _ | exact .sli rfl | exact .sls rfl | exact .slr rfl | exact .orow rfl | exact .nil) | omega | ((apply w_gtr); iterate 3 exact rfl))
          refine .boolint Try.results33 rfl rfl ?_ rfl
          symm
          rw [List.all_eq_false]
          exact ⟨n, List.mem_range.2 hn, by rw [hK, ← a7]; simp [ha1]⟩
      · have hr := l17Rest_c a b a1 a2 a3 (by omega) a4 a5
        obtain ⟨r1, r2, r3⟩ := remD_ok a1 a2 a3 (by omega)
        repeat' (first | (apply AOps.nil; try simp only [List.nil_append, List.cons_append, List.set_cons_zero, List.set_cons_succ, List.length_cons, List.length_nil, Nat.reduceAdd, AV.sh, AV.sh1, AV.sh0, AO.sh, List.map_cons, List.map_nil, Nat.zero_add, Nat.add_zero, setAll]) | (apply w_move; exact rfl; exact rfl) | (apply w_assign; exact rfl; exact rfl) | apply AWp.seq | apply AWp.region | ((apply AWp.condP; exact rfl) <;> intro h) | apply AWp.block | apply AWp.exit | apply AWp.skip | (apply w_len; exact rfl; exact rfl; first | exact .ints _ | exact .intss _ | exact .sli rfl | exact .sls rfl | exact .slr rfl | exact .orow rfl | exact .nil) | (apply w_callm (hr); (focus ((repeat (first | exact im_nil | refine im_cons rfl (.sli rfl) ?_)); done)); rintro r os0 ⟨rfl, rfl⟩; try simp only [List.nil_append, List.cons_append, List.set_cons_zero, List.set_cons_succ, List.length_cons, List.length_nil, Nat.reduceAdd, AV.sh, AV.sh1, AV.sh0, AO.sh, List.map_cons, List.map_nil, Nat.zero_add, Nat.add_zero, setAll]) | omega | ((apply w_gtr); iterate 3 exact rfl))
        refine ⟨(b, remD a b), ⟨a2, r2, r3, a5, by simp only; omega, hb0, ?_⟩, by simp only; omega, ?_⟩
        · simp only
          rw [← a7]
          obtain ⟨z, hz⟩ : ∃ z, b.length = z + 1 := ⟨b.length - 1, by omega⟩
          rw [hz, euF_step hb0]
          exact (euF_le a2 r2 r3 _ z (Nat.le_refl _) (by omega)).symm
        · (apply Or.inr; refine ⟨[0, 1, 2, 3, 4, 5, 7, 8], ⟨by decide, fun x hx => Nat.lt_of_lt_of_le ((by decide : ∀ x ∈ ([0, 1, 2, 3, 4, 5, 7, 8] : List Nat), x < 9) x hx) (Nat.le_of_ble_eq_true rfl)⟩, lee rfl ?_, ?_, rfl, rfl⟩; (focus ((repeat (first | exact le_nil | refine le_eq rfl rfl ?_)); done)); (focus ((repeat (first | exact lo_nil | refine lo_dead ?_ | refine lo_eq rfl ?_)); done)))
  · repeat' (first | (apply AOps.nil; try simp only [List.nil_append, List.cons_append, List.set_cons_zero, List.set_cons_succ, List.length_cons, List.length_nil, Nat.reduceAdd, AV.sh, AV.sh1, AV.sh0, AO.sh, List.map_cons, List.map_nil, Nat.zero_add, Nat.add_zero, setAll]) | (apply w_move; exact rfl; exact rfl) | (apply w_assign; exact rfl; exact rfl) | apply AWp.seq | apply AWp.region | ((apply AWp.condP; exact rfl) <;> intro h) | apply AWp.block | apply AWp.ret | apply AWp.exit | apply AWp.skip | (apply w_len; exact rfl; exact rfl; first | exact .ints _ | exact .intss _ | exact .sli rfl | exact .sls rfl | exact .slr rfl | exact .orow rfl | exact .nil) | omega | ((apply w_lss); iterate 3 exact rfl))
    have e : n = E.length := by omega
    subst e
    refine .boolint Try.results33 rfl rfl ?_ rfl
    symm
    rw [List.all_eq_true]
    exact fun j hj => n1 j (List.mem_range.1 hj)
end Go.Proofs.Ytifkgmbghcmdeaa
/-
  Nondegenerate polynomials: the law. No condition.
-/
namespace Go.Proofs.Ytifkgmbghcmdeaa
open Go Go.RowKit
attribute [local irreducible] AWp AOps ResIs Ret1 QOp LOp COp AFnV AFn Imms LeE LeO
set_option maxHeartbeats 1000000
set_option linter.unusedSimpArgs false
set_option linter.unusedVariables false

theorem lawNd_c (f : List (List Int)) : AFnV Try.prog 8 [.agg [.intss f]] (.bool true) := by
  (refine AFnV.start Try.func8 Try.ntmps8 rfl (by kernel_rfl) fun hk => ?_; simp only [Env.start, enumF, List.length_cons, List.length_nil, Nat.reduceAdd, Nat.reduceSub, List.cons_append, List.nil_append])
  repeat' (first | (apply AOps.nil; try simp only [List.nil_append, List.cons_append, List.set_cons_zero, List.set_cons_succ, List.length_cons, List.length_nil, Nat.reduceAdd, AV.sh, AV.sh1, AV.sh0, AO.sh, List.map_cons, List.map_nil, Nat.zero_add, Nat.add_zero, setAll]) | (apply w_move; exact rfl; exact rfl) | (apply w_assign; exact rfl; exact rfl) | apply AWp.seq | apply AWp.region | ((apply AWp.condP; exact rfl) <;> intro h) | apply AWp.ret | apply AWp.skip | (apply w_call (szPoly_c _ 1048576 (by omega) (by omega)); exact rfl; exact rfl; focus ((repeat (first | exact im_nil | refine im_cons rfl (.val _) ?_ | refine im_cons rfl (im_agg1 (.intss _)) ?_)); done)) | ((apply w_lss); iterate 3 exact rfl) | ((apply w_boxa); iterate 2 exact rfl) | (apply w_ldst; iterate 5 exact rfl))
  · exact .bool Try.results8 rfl rfl
  have hs := szSS_ok (xss := f) (left := 1048576) (by omega) (by omega)
  have hb : f.length ≤ 1048576 := by omega
  have hr : ∀ xs ∈ f, xs.length ≤ 1048576 := fun xs hx => by have := hs.2 xs hx; omega
  have c1 := specNd_c f
  have c2 := implNd_c f
  generalize ndR f = bb at c1 c2
  cases bb
  all_goals
    repeat' (first | (apply AOps.nil; try simp only [List.nil_append, List.cons_append, List.set_cons_zero, List.set_cons_succ, List.length_cons, List.length_nil, Nat.reduceAdd, AV.sh, AV.sh1, AV.sh0, AO.sh, List.map_cons, List.map_nil, Nat.zero_add, Nat.add_zero, setAll]) | ((apply AOps.splitP; exact rfl; exact rfl) <;> intro h) | (apply w_move; exact rfl; exact rfl) | (apply w_assign; exact rfl; exact rfl) | apply AWp.seq | apply AWp.region | ((apply AWp.condP; exact rfl) <;> intro h) | (apply AWp.condT; exact rfl) | apply AWp.ret | apply AWp.skip | (apply w_skip; exact rfl) | (apply w_pickT; exact rfl; exact rfl; exact rfl) | (apply w_pickF; exact rfl; exact rfl; exact rfl) | (apply w_call (c1); exact rfl; exact rfl; focus ((repeat (first | exact im_nil | refine im_cons rfl (im_agg1 (.sls rfl)) ?_)); done)) | (apply w_call (c2); exact rfl; exact rfl; focus ((repeat (first | exact im_nil | refine im_cons rfl (im_agg1 (.sls rfl)) ?_)); done)) | (apply w_callm (toPoly_c _ hb hr); (focus ((repeat (first | exact im_nil | refine im_cons rfl (im_agg1 (.intss _)) ?_)); done)); rintro r os0 ⟨rfl, rfl⟩; try simp only [List.nil_append, List.cons_append, List.set_cons_zero, List.set_cons_succ, List.length_cons, List.length_nil, Nat.reduceAdd, AV.sh, AV.sh1, AV.sh0, AO.sh, List.map_cons, List.map_nil, Nat.zero_add, Nat.add_zero, setAll]) | omega | (exact (h rfl).elim) | ((first | apply w_neq | apply w_extv); iterate 3 exact rfl) | ((apply w_neqb); iterate 3 exact rfl) | (apply w_ldst; iterate 5 exact rfl) | (apply w_alst; iterate 2 exact rfl) | (apply w_stst; iterate 5 exact rfl))
    refine AWp.regionA (by kernel_rfl) (envC := ⟨40, [(39, .b false)]⟩) (osC := []) rfl rfl ?_ ?_
    · repeat' (first | (apply AOps.nil; try simp only [List.nil_append, List.cons_append, List.set_cons_zero, List.set_cons_succ, List.length_cons, List.length_nil, Nat.reduceAdd, AV.sh, AV.sh1, AV.sh0, AO.sh, List.map_cons, List.map_nil, Nat.zero_add, Nat.add_zero, setAll]) | (apply w_call (eqPoly_t _); exact rfl; exact rfl; focus ((repeat (first | exact im_nil | refine im_cons rfl (im_agg1 (.sls rfl)) ?_)); done)) | (apply w_callm (toPoly_c _ hb hr); (focus ((repeat (first | exact im_nil | refine im_cons rfl (im_agg1 (.intss _)) ?_)); done)); rintro r os0 ⟨rfl, rfl⟩; try simp only [List.nil_append, List.cons_append, List.set_cons_zero, List.set_cons_succ, List.length_cons, List.length_nil, Nat.reduceAdd, AV.sh, AV.sh1, AV.sh0, AO.sh, List.map_cons, List.map_nil, Nat.zero_add, Nat.add_zero, setAll]) | ((apply w_not); iterate 2 exact rfl) | (apply w_ldst; iterate 5 exact rfl) | apply AllOf.nil | (apply AllOf.cons; exact rfl) | (apply AAny.take; exact rfl; exact rfl; kernel_rfl; kernel_rfl) | (apply AAny.all; exact rfl) | (apply AAny.done; exact rfl))
      all_goals (apply Or.inl; refine ⟨lee rfl ?_, ?_, rfl, rfl⟩; (focus ((repeat (first | exact le_nil | refine le_eq rfl rfl ?_)); done)); (focus ((repeat (exact lo_nil)); done)))
    repeat' (first | (apply AOps.nil; try simp only [List.nil_append, List.cons_append, List.set_cons_zero, List.set_cons_succ, List.length_cons, List.length_nil, Nat.reduceAdd, AV.sh, AV.sh1, AV.sh0, AO.sh, List.map_cons, List.map_nil, Nat.zero_add, Nat.add_zero, setAll]) | (apply w_assign; exact rfl; exact rfl) | apply AWp.seq | apply AWp.region | (apply AWp.condF; exact rfl) | apply AWp.ret | apply AWp.skip)
    all_goals exact .bool Try.results8 rfl rfl
end Go.Proofs.Ytifkgmbghcmdeaa
