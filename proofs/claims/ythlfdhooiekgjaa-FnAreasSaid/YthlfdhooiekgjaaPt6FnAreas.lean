/-
  Parts of the proof, one behind the other: contracts of functions and plain laws. No condition.
-/
import Derived.Test.YthlfdhooiekgjaaPt5FnAreas
/-
  The program's sum of hulls; sums of supports and mixed areas on both sides. No condition.
-/
namespace Go.Proofs.Ythlfdhooiekgjaa
open Go Go.RowKit
attribute [local irreducible] AWp AOps ResIs Ret1 QOp LOp COp AFnV AFn Imms LeE LeO
set_option maxHeartbeats 1000000
set_option linter.unusedSimpArgs false
set_option linter.unusedVariables false

set_option maxHeartbeats 8000000 in
theorem sumOfCorners_c (a b : List (List Int)) (ha : isSup a = true) (hb : isSup b = true) : AFn Try.prog 60 [.intss (verts a), .intss (verts b)] (IsIntss 38 2 (vsum a b)) := by
  have oV := sup_ok ha
  have oW := sup_ok hb
  have hV := hasS ha
  have hW := hasS hb
  have hvr := (vsum_ok ha hb).row
  have hvl := (vsum_ok ha hb).len
  unfold vsum at *
  have key := fun L => sum_hull (L := L) hV hW oV oW
  clear hV hW
  generalize verts a = V at *
  generalize verts b = W at *
  have lV := oV.len
  have lW := oW.len
  have zV := oV.pos
  have zW := oW.pos
  have c1 := edgesBetween_c (by decide) V oV
  have c2 := edgesBetween_c (by decide) W oW
  have l1 := edL_len V (V.length - 1)
  have l2 := edL_len W (W.length - 1)
  have r1 : ∀ e ∈ edL V (V.length - 1) ++ edL W (W.length - 1), E60 e := by
    intro e he
    rcases List.mem_append.1 he with he | he
    · exact ed_row oV he
    · exact ed_row oW he
  have hje := joinedEdges_all _ (by rw [List.length_append]; omega) r1
  have g1 : gets V 0 = V.getD 0 [] := by simp [gets, List.getD_eq_getElem?_getD]
  have g2 : gets W 0 = W.getD 0 [] := by simp [gets, List.getD_eq_getElem?_getD]
  obtain ⟨p1, p2, p3⟩ := oV.at 0 zV
  obtain ⟨q1, q2, q3⟩ := oW.at 0 zW
  simp only [Int.natCast_zero] at p1 p2 p3 q1 q2 q3
  have p1' : (gets V ((Int.toNat 0 : Nat) : Int)).length = 2 := p1
  have q1' : (gets W ((Int.toNat 0 : Nat) : Int)).length = 2 := q1
  (refine AFn.start Try.func60 Try.ntmps60 rfl (by kernel_rfl) fun hk => ?_; simp only [Env.start, enumF, List.length_cons, List.length_nil, Nat.reduceAdd, Nat.reduceSub, List.cons_append, List.nil_append])
  repeat' (first | (apply AOps.nil; try simp only [List.nil_append, List.cons_append, List.set_cons_zero, List.set_cons_succ, List.length_cons, List.length_nil, Nat.reduceAdd, AV.sh, AV.sh1, AV.sh0, AO.sh, List.map_cons, List.map_nil, Nat.zero_add, Nat.add_zero, setAll]) | (apply w_assign; exact rfl; exact rfl) | apply AWp.seq | apply AWp.region)
  refine AWp.regionG [] (by kernel_rfl) (envC := ⟨37, [(0, .intss V), (1, .intss W), (5, .own 0)]⟩) (osC := [.sli 2 [geti (gets V 0) 0 + geti (gets W 0) 0, geti (gets V 0) 1 + geti (gets W 0) 1]]) rfl rfl ?_ ?_
  · repeat' (first | (apply AOps.nil; try simp only [List.nil_append, List.cons_append, List.set_cons_zero, List.set_cons_succ, List.length_cons, List.length_nil, Nat.reduceAdd, AV.sh, AV.sh1, AV.sh0, AO.sh, List.map_cons, List.map_nil, Nat.zero_add, Nat.add_zero, setAll]) | (apply w_move; exact rfl; exact rfl) | (apply w_assign; exact rfl; exact rfl) | apply AllOfG.nil | (apply AllOfG.consS; exact rfl; exact rfl) | (apply AAnyG.takeW; exact rfl; exact rfl; kernel_rfl; kernel_rfl) | (apply AAnyG.takeL; exact rfl; exact rfl; kernel_rfl) | (apply AAnyG.all; exact rfl) | (apply AAnyG.done; exact rfl) | omega | ((first | apply w_add | apply w_idx | apply w_ld | apply w_bs2); iterate 3 exact rfl) | ((first | apply w_idxs | apply w_lds); iterate 3 exact rfl) | (apply inI_of <;> omega))
    all_goals (apply Or.inl; refine ⟨lee rfl ?_, ?_, rfl, rfl⟩; (focus ((repeat (first | exact le_nil | refine le_eq rfl rfl ?_)); done)); (focus ((repeat (first | exact lo_nil | refine lo_eq rfl ?_)); done)))
  repeat' (first | (apply w_move; exact rfl; exact rfl) | apply AWp.seq | apply AWp.region | (apply w_apprs; exact rfl; exact rfl; exact rfl; exact rfl; exact rfl; exact rfl; rotate_left 1; simp only [Env.mp, List.map_cons, List.map_nil, List.set_cons_zero, List.set_cons_succ, AV.kill, AV.kill1, AO.kill, AV.lose, AV.lose1, List.map_append, map_orow_kill, AV.noRow, AV.noRow1, AO.via, reduceIte, Nat.reduceEqDiff, Nat.reduceLT, Env.up, Nat.zero_ne_one, Nat.one_ne_zero, Nat.reduceAdd, List.cons_append, List.nil_append]; rotate_left 1) | (apply w_callm (hje); (focus ((repeat (first | exact im_nil | refine im_cons rfl (.sls rfl) ?_)); done)); rintro r os0 ⟨L, hL, rfl, rfl⟩; try simp only [List.nil_append, List.cons_append, List.set_cons_zero, List.set_cons_succ, List.length_cons, List.length_nil, Nat.reduceAdd, AV.sh, AV.sh1, AV.sh0, AO.sh, List.map_cons, List.map_nil, Nat.zero_add, Nat.add_zero, setAll]) | (apply w_callm (c1); (focus ((repeat (first | exact im_nil | refine im_cons rfl (.intss _) ?_)); done)); rintro r os0 ⟨rfl, rfl⟩; try simp only [List.nil_append, List.cons_append, List.set_cons_zero, List.set_cons_succ, List.length_cons, List.length_nil, Nat.reduceAdd, AV.sh, AV.sh1, AV.sh0, AO.sh, List.map_cons, List.map_nil, Nat.zero_add, Nat.add_zero, setAll]) | (apply w_callm (c2); (focus ((repeat (first | exact im_nil | refine im_cons rfl (.intss _) ?_)); done)); rintro r os0 ⟨rfl, rfl⟩; try simp only [List.nil_append, List.cons_append, List.set_cons_zero, List.set_cons_succ, List.length_cons, List.length_nil, Nat.reduceAdd, AV.sh, AV.sh1, AV.sh0, AO.sh, List.map_cons, List.map_nil, Nat.zero_add, Nat.add_zero, setAll]) | omega)
  have hh := key L hL
  have ep : addR (V.getD 0 []) (W.getD 0 []) = [geti (gets V 0) 0 + geti (gets W 0) 0, geti (gets V 0) 1 + geti (gets W 0) 1] := by rw [g1, g2]; rfl
  rw [ep] at hh
  rw [hh] at hvr hvl ⊢
  have hlen := vfP_len L [geti (gets V 0) 0 + geti (gets W 0) 0, geti (gets V 0) 1 + geti (gets W 0) 1]
  have hver := verticesFrom_c _ L rfl (by omega) (fun l hl => (hL.pos l hl).1) (fun q hq => by have := hvr q hq; omega)
  repeat' (first | (apply AOps.nil; try simp only [List.nil_append, List.cons_append, List.set_cons_zero, List.set_cons_succ, List.length_cons, List.length_nil, Nat.reduceAdd, AV.sh, AV.sh1, AV.sh0, AO.sh, List.map_cons, List.map_nil, Nat.zero_add, Nat.add_zero, setAll]) | (apply w_assign; exact rfl; exact rfl) | apply AWp.ret | (apply w_callm (hver); (focus ((repeat (first | exact im_nil | refine im_cons rfl (.sli rfl) ?_ | refine im_cons rfl (.sls rfl) ?_)); done)); rintro r os0 ⟨rfl, rfl⟩; try simp only [List.nil_append, List.cons_append, List.set_cons_zero, List.set_cons_succ, List.length_cons, List.length_nil, Nat.reduceAdd, AV.sh, AV.sh1, AV.sh0, AO.sh, List.map_cons, List.map_nil, Nat.zero_add, Nat.add_zero, setAll]))
  exact ⟨_, _, _, .v1 Try.results60 rfl, .sls rfl, rfl, rfl⟩

/-! ### Sums of supports -/
open Classical in
noncomputable def sosE (a b : List (List Int)) : Int := if isSup a = true ∧ isSup b = true then (if ∀ r ∈ vsum a b, R60 r then 0 else 3) else 1
noncomputable def sosL (a b : List (List Int)) : List (List Int) := if sosE a b = 0 then vsum a b else []
theorem sos_no {a b : List (List Int)} (h : ¬ (isSup a = true ∧ isSup b = true)) : sosE a b = 1 ∧ sosL a b = [] := by
  have e : sosE a b = 1 := if_neg h
  exact ⟨e, by rw [sosL, e, if_neg (by decide)]⟩
theorem sos_lim {a b : List (List Int)} (h : isSup a = true ∧ isSup b = true) (h2 : ¬ ∀ r ∈ vsum a b, R60 r) : sosE a b = 3 ∧ sosL a b = [] := by
  have e : sosE a b = 3 := by rw [sosE, if_pos h, if_neg h2]
  exact ⟨e, by rw [sosL, e, if_neg (by decide)]⟩
theorem sos_ok {a b : List (List Int)} (h : isSup a = true ∧ isSup b = true) (h2 : ∀ r ∈ vsum a b, R60 r) : sosE a b = 0 ∧ sosL a b = vsum a b := by
  have e : sosE a b = 0 := by rw [sosE, if_pos h, if_pos h2]
  exact ⟨e, by rw [sosL, if_pos e]⟩

set_option maxHeartbeats 8000000 in
theorem implSumOfSupports_c (a b : List (List Int)) : AFn Try.prog 31 [.intss a, .intss b] (IsSSC 38 2 (sosL a b) (sosE a b)) := by
  have s1 := implIsSupport_c a
  have s2 := implIsSupport_c b
  (refine AFn.start Try.func31 Try.ntmps31 rfl (by kernel_rfl) fun hk => ?_; simp only [Env.start, enumF, List.length_cons, List.length_nil, Nat.reduceAdd, Nat.reduceSub, List.cons_append, List.nil_append])
  by_cases h : isSup a = true ∧ isSup b = true
  case neg =>
    obtain ⟨e1, e2⟩ := sos_no h
    rw [e1, e2]
    cases ha : isSup a
    · rw [ha] at s1
      repeat' (first | (apply AOps.nil; try simp only [List.nil_append, List.cons_append, List.set_cons_zero, List.set_cons_succ, List.length_cons, List.length_nil, Nat.reduceAdd, AV.sh, AV.sh1, AV.sh0, AO.sh, List.map_cons, List.map_nil, Nat.zero_add, Nat.add_zero, setAll]) | (apply w_move; exact rfl; exact rfl) | (apply w_assign; exact rfl; exact rfl) | apply AWp.seq | apply AWp.region | (apply AWp.condT; exact rfl) | apply AWp.ret | (apply w_skip; exact rfl) | (apply w_pickT; exact rfl; exact rfl; exact rfl) | (apply w_call (s1); exact rfl; exact rfl; focus ((repeat (first | exact im_nil | refine im_cons rfl (.intss _) ?_)); done)) | ((apply w_not); iterate 2 exact rfl))
      all_goals exact ⟨_, _, _, .a2 Try.results31 rfl rfl, .tup2 (.nils 38 2), rfl, rfl⟩
    · rw [ha] at s1
      cases hb : isSup b
      · rw [hb] at s2
        repeat' (first | (apply AOps.nil; try simp only [List.nil_append, List.cons_append, List.set_cons_zero, List.set_cons_succ, List.length_cons, List.length_nil, Nat.reduceAdd, AV.sh, AV.sh1, AV.sh0, AO.sh, List.map_cons, List.map_nil, Nat.zero_add, Nat.add_zero, setAll]) | (apply w_move; exact rfl; exact rfl) | (apply w_assign; exact rfl; exact rfl) | apply AWp.seq | apply AWp.region | (apply AWp.condT; exact rfl) | apply AWp.ret | (apply w_pickF; exact rfl; exact rfl; exact rfl) | (apply w_call (s1); exact rfl; exact rfl; focus ((repeat (first | exact im_nil | refine im_cons rfl (.intss _) ?_)); done)) | (apply w_call (s2); exact rfl; exact rfl; focus ((repeat (first | exact im_nil | refine im_cons rfl (.intss _) ?_)); done)) | ((apply w_not); iterate 2 exact rfl))
        all_goals exact ⟨_, _, _, .a2 Try.results31 rfl rfl, .tup2 (.nils 38 2), rfl, rfl⟩
      · exact absurd ⟨ha, hb⟩ h
  obtain ⟨ha, hb⟩ := h
  rw [ha] at s1
  rw [hb] at s2
  have c1 := corS' ha
  have c2 := corS' hb
  have c3 := sumOfCorners_c a b ha hb
  have hok := vsum_ok ha hb
  have hl := hok.len
  have hr : ∀ r ∈ vsum a b, r.length = 2 := fun r hr => (hok.row r hr).1
  by_cases h2 : ∀ r ∈ vsum a b, R60 r
  · obtain ⟨e1, e2⟩ := sos_ok ⟨ha, hb⟩ h2
    rw [e1, e2]
    have hlim := limOk_c (vsum a b) (by omega) (fun r hr' => ⟨hr r hr', h2 r hr'⟩)
    repeat' (first | (apply AOps.nil; try simp only [List.nil_append, List.cons_append, List.set_cons_zero, List.set_cons_succ, List.length_cons, List.length_nil, Nat.reduceAdd, AV.sh, AV.sh1, AV.sh0, AO.sh, List.map_cons, List.map_nil, Nat.zero_add, Nat.add_zero, setAll]) | (apply w_move; exact rfl; exact rfl) | (apply w_assign; exact rfl; exact rfl) | apply AWp.seq | apply AWp.region | (apply AWp.condF; exact rfl) | apply AWp.ret | apply AWp.skip | (apply w_pickF; exact rfl; exact rfl; exact rfl) | (apply w_call (s1); exact rfl; exact rfl; focus ((repeat (first | exact im_nil | refine im_cons rfl (.intss _) ?_)); done)) | (apply w_call (s2); exact rfl; exact rfl; focus ((repeat (first | exact im_nil | refine im_cons rfl (.intss _) ?_)); done)) | (apply w_callm (c1); (focus ((repeat (first | exact im_nil | refine im_cons rfl (.intss _) ?_)); done)); rintro r os0 ⟨rfl, rfl⟩; try simp only [List.nil_append, List.cons_append, List.set_cons_zero, List.set_cons_succ, List.length_cons, List.length_nil, Nat.reduceAdd, AV.sh, AV.sh1, AV.sh0, AO.sh, List.map_cons, List.map_nil, Nat.zero_add, Nat.add_zero, setAll]) | (apply w_callm (c2); (focus ((repeat (first | exact im_nil | refine im_cons rfl (.intss _) ?_)); done)); rintro r os0 ⟨rfl, rfl⟩; try simp only [List.nil_append, List.cons_append, List.set_cons_zero, List.set_cons_succ, List.length_cons, List.length_nil, Nat.reduceAdd, AV.sh, AV.sh1, AV.sh0, AO.sh, List.map_cons, List.map_nil, Nat.zero_add, Nat.add_zero, setAll]) | (apply w_callm (c3); (focus ((repeat (first | exact im_nil | refine im_cons rfl (.sls rfl) ?_)); done)); rintro r os0 ⟨rfl, rfl⟩; try simp only [List.nil_append, List.cons_append, List.set_cons_zero, List.set_cons_succ, List.length_cons, List.length_nil, Nat.reduceAdd, AV.sh, AV.sh1, AV.sh0, AO.sh, List.map_cons, List.map_nil, Nat.zero_add, Nat.add_zero, setAll]) | (apply w_callc [2] (hlim); exact rfl; (exact handed1 rfl True.intro); (focus ((repeat (first | exact imu_nil | refine imu_cons rfl (.own rfl) ?_)); done)); rintro r os0 ⟨rfl, rfl⟩; try simp only [List.nil_append, List.cons_append, List.set_cons_zero, List.set_cons_succ, List.length_cons, List.length_nil, Nat.reduceAdd, AV.sh, AV.sh1, AV.sh0, AO.sh, List.map_cons, List.map_nil, Nat.zero_add, Nat.add_zero, setAll]) | ((apply w_ext); iterate 3 exact rfl) | ((apply w_not); iterate 2 exact rfl))
    exact ⟨_, _, _, .a2 Try.results31 rfl rfl, .tup2 (.sls rfl), rfl, rfl⟩
  · obtain ⟨e1, e2⟩ := sos_lim ⟨ha, hb⟩ h2
    rw [e1, e2]
    have hlim := limBad_c (vsum a b) (by omega) hr (by
      apply Classical.byContradiction
      intro hn
      exact h2 fun r hr => Classical.byContradiction fun hz => hn ⟨r, hr, hz⟩)
    repeat' (first | (apply AOps.nil; try simp only [List.nil_append, List.cons_append, List.set_cons_zero, List.set_cons_succ, List.length_cons, List.length_nil, Nat.reduceAdd, AV.sh, AV.sh1, AV.sh0, AO.sh, List.map_cons, List.map_nil, Nat.zero_add, Nat.add_zero, setAll]) | (apply w_move; exact rfl; exact rfl) | (apply w_assign; exact rfl; exact rfl) | apply AWp.seq | apply AWp.region | (apply AWp.condF; exact rfl) | apply AWp.ret | apply AWp.skip | (apply w_pickF; exact rfl; exact rfl; exact rfl) | (apply w_call (s1); exact rfl; exact rfl; focus ((repeat (first | exact im_nil | refine im_cons rfl (.intss _) ?_)); done)) | (apply w_call (s2); exact rfl; exact rfl; focus ((repeat (first | exact im_nil | refine im_cons rfl (.intss _) ?_)); done)) | (apply w_callm (c1); (focus ((repeat (first | exact im_nil | refine im_cons rfl (.intss _) ?_)); done)); rintro r os0 ⟨rfl, rfl⟩; try simp only [List.nil_append, List.cons_append, List.set_cons_zero, List.set_cons_succ, List.length_cons, List.length_nil, Nat.reduceAdd, AV.sh, AV.sh1, AV.sh0, AO.sh, List.map_cons, List.map_nil, Nat.zero_add, Nat.add_zero, setAll]) | (apply w_callm (c2); (focus ((repeat (first | exact im_nil | refine im_cons rfl (.intss _) ?_)); done)); rintro r os0 ⟨rfl, rfl⟩; try simp only [List.nil_append, List.cons_append, List.set_cons_zero, List.set_cons_succ, List.length_cons, List.length_nil, Nat.reduceAdd, AV.sh, AV.sh1, AV.sh0, AO.sh, List.map_cons, List.map_nil, Nat.zero_add, Nat.add_zero, setAll]) | (apply w_callm (c3); (focus ((repeat (first | exact im_nil | refine im_cons rfl (.sls rfl) ?_)); done)); rintro r os0 ⟨rfl, rfl⟩; try simp only [List.nil_append, List.cons_append, List.set_cons_zero, List.set_cons_succ, List.length_cons, List.length_nil, Nat.reduceAdd, AV.sh, AV.sh1, AV.sh0, AO.sh, List.map_cons, List.map_nil, Nat.zero_add, Nat.add_zero, setAll]) | (apply w_callc [2] (hlim); exact rfl; (exact handed1 rfl True.intro); (focus ((repeat (first | exact imu_nil | refine imu_cons rfl (.own rfl) ?_)); done)); rintro r os0 ⟨rfl, rfl⟩; try simp only [List.nil_append, List.cons_append, List.set_cons_zero, List.set_cons_succ, List.length_cons, List.length_nil, Nat.reduceAdd, AV.sh, AV.sh1, AV.sh0, AO.sh, List.map_cons, List.map_nil, Nat.zero_add, Nat.add_zero, setAll]) | ((apply w_ext); iterate 3 exact rfl) | ((apply w_not); iterate 2 exact rfl))
    exact ⟨_, _, _, .a2 Try.results31 rfl rfl, .tup2 (.nils 38 2), rfl, rfl⟩

set_option maxHeartbeats 8000000 in
theorem specSumOfSupports_c (a b : List (List Int)) : AFn Try.prog 32 [.intss a, .intss b] (IsSSC 38 2 (sosL a b) (sosE a b)) := by
  have s1 := l15Is_c a
  have s2 := l15Is_c b
  (refine AFn.start Try.func32 Try.ntmps32 rfl (by kernel_rfl) fun hk => ?_; simp only [Env.start, enumF, List.length_cons, List.length_nil, Nat.reduceAdd, Nat.reduceSub, List.cons_append, List.nil_append])
  by_cases h : isSup a = true ∧ isSup b = true
  case neg =>
    obtain ⟨e1, e2⟩ := sos_no h
    rw [e1, e2]
    cases ha : isSup a
    · rw [ha] at s1
      repeat' (first | (apply AOps.nil; try simp only [List.nil_append, List.cons_append, List.set_cons_zero, List.set_cons_succ, List.length_cons, List.length_nil, Nat.reduceAdd, AV.sh, AV.sh1, AV.sh0, AO.sh, List.map_cons, List.map_nil, Nat.zero_add, Nat.add_zero, setAll]) | (apply w_move; exact rfl; exact rfl) | (apply w_assign; exact rfl; exact rfl) | apply AWp.seq | apply AWp.region | (apply AWp.condT; exact rfl) | apply AWp.ret | (apply w_skip; exact rfl) | (apply w_pickT; exact rfl; exact rfl; exact rfl) | (apply w_call (s1); exact rfl; exact rfl; focus ((repeat (first | exact im_nil | refine im_cons rfl (.intss _) ?_)); done)) | ((apply w_not); iterate 2 exact rfl))
      all_goals exact ⟨_, _, _, .a2 Try.results32 rfl rfl, .tup2 (.nils 38 2), rfl, rfl⟩
    · rw [ha] at s1
      cases hb : isSup b
      · rw [hb] at s2
        repeat' (first | (apply AOps.nil; try simp only [List.nil_append, List.cons_append, List.set_cons_zero, List.set_cons_succ, List.length_cons, List.length_nil, Nat.reduceAdd, AV.sh, AV.sh1, AV.sh0, AO.sh, List.map_cons, List.map_nil, Nat.zero_add, Nat.add_zero, setAll]) | (apply w_move; exact rfl; exact rfl) | (apply w_assign; exact rfl; exact rfl) | apply AWp.seq | apply AWp.region | (apply AWp.condT; exact rfl) | apply AWp.ret | (apply w_pickF; exact rfl; exact rfl; exact rfl) | (apply w_call (s1); exact rfl; exact rfl; focus ((repeat (first | exact im_nil | refine im_cons rfl (.intss _) ?_)); done)) | (apply w_call (s2); exact rfl; exact rfl; focus ((repeat (first | exact im_nil | refine im_cons rfl (.intss _) ?_)); done)) | ((apply w_not); iterate 2 exact rfl))
        all_goals exact ⟨_, _, _, .a2 Try.results32 rfl rfl, .tup2 (.nils 38 2), rfl, rfl⟩
      · exact absurd ⟨ha, hb⟩ h
  obtain ⟨ha, hb⟩ := h
  rw [ha] at s1
  rw [hb] at s2
  have c3 := l15Sum_c a b ha hb
  have hok := vsum_ok ha hb
  have hl := hok.len
  have hr : ∀ n : Nat, n < (vsum a b).length → ((vsum a b).getD (n : Int).toNat []).length = 2 ∧ (0 ≤ geti ((vsum a b).getD (n : Int).toNat []) ((Int.toNat 0 : Nat) : Int)) ∧ (0 ≤ geti ((vsum a b).getD (n : Int).toNat []) ((Int.toNat 1 : Nat) : Int)) := fun n hn => by
    have := hok.row _ (show (vsum a b).getD (n : Int).toNat [] ∈ vsum a b by rw [Int.toNat_natCast, List.getD_eq_getElem?_getD, List.getElem?_eq_getElem hn]; exact List.getElem_mem _)
    exact ⟨this.1, this.2.1.1, this.2.2.1⟩
  by_cases h2 : ∀ r ∈ vsum a b, R60 r
  · obtain ⟨e1, e2⟩ := sos_ok ⟨ha, hb⟩ h2
    rw [e1, e2]
    generalize vsum a b = Z at *
    repeat' (first | (apply AOps.nil; try simp only [List.nil_append, List.cons_append, List.set_cons_zero, List.set_cons_succ, List.length_cons, List.length_nil, Nat.reduceAdd, AV.sh, AV.sh1, AV.sh0, AO.sh, List.map_cons, List.map_nil, Nat.zero_add, Nat.add_zero, setAll]) | (apply w_move; exact rfl; exact rfl) | (apply w_assign; exact rfl; exact rfl) | apply AWp.seq | apply AWp.region | (apply AWp.condF; exact rfl) | apply AWp.block | apply AWp.skip | (apply w_pickF; exact rfl; exact rfl; exact rfl) | (apply w_call (s1); exact rfl; exact rfl; focus ((repeat (first | exact im_nil | refine im_cons rfl (.intss _) ?_)); done)) | (apply w_call (s2); exact rfl; exact rfl; focus ((repeat (first | exact im_nil | refine im_cons rfl (.intss _) ?_)); done)) | (apply w_callm (c3); (focus ((repeat (first | exact im_nil | refine im_cons rfl (.intss _) ?_)); done)); rintro r os0 ⟨rfl, rfl⟩; try simp only [List.nil_append, List.cons_append, List.set_cons_zero, List.set_cons_succ, List.length_cons, List.length_nil, Nat.reduceAdd, AV.sh, AV.sh1, AV.sh0, AO.sh, List.map_cons, List.map_nil, Nat.zero_add, Nat.add_zero, setAll]) | ((apply w_not); iterate 2 exact rfl))
    refine AWp.loop (ι := Nat) (fun i => ⟨42, [(6, .own 0), (7, .i i)]⟩) (fun i => [.sls 38 2 Z]) (fun i => i ≤ Z.length) (fun i => Z.length - i) 0 (by omega) ⟨lee rfl (by (repeat (first | exact le_nil | refine le_eq rfl rfl ?_))), by (repeat (first | exact lo_nil | refine lo_eq rfl ?_)), rfl, rfl⟩ ?_
    rintro i i0
    by_cases hi : i < Z.length
    · obtain ⟨a1, a2, a3⟩ := hr i hi
      have h3 : (0 ≤ geti (Z.getD (i : Int).toNat []) ((Int.toNat 0 : Nat) : Int) ∧ geti (Z.getD (i : Int).toNat []) ((Int.toNat 0 : Nat) : Int) ≤ 60) ∧ (0 ≤ geti (Z.getD (i : Int).toNat []) ((Int.toNat 1 : Nat) : Int) ∧ geti (Z.getD (i : Int).toNat []) ((Int.toNat 1 : Nat) : Int) ≤ 60) :=
        h2 _ (by rw [Int.toNat_natCast, List.getD_eq_getElem?_getD, List.getElem?_eq_getElem hi]; exact List.getElem_mem _)
      repeat' (first | (apply AOps.nil; try simp only [List.nil_append, List.cons_append, List.set_cons_zero, List.set_cons_succ, List.length_cons, List.length_nil, Nat.reduceAdd, AV.sh, AV.sh1, AV.sh0, AO.sh, List.map_cons, List.map_nil, Nat.zero_add, Nat.add_zero, setAll]) | ((apply AOps.splitP; exact rfl; exact rfl) <;> intro h) | (apply w_move; exact rfl; exact rfl) | (apply w_assign; exact rfl; exact rfl) | apply AWp.seq | apply AWp.region | ((apply AWp.condP; exact rfl) <;> intro h) | (apply AWp.condT; exact rfl) | apply AWp.block | apply AWp.ret | apply AWp.exit | apply AWp.skip | (apply w_skip; exact rfl) | (apply w_pickT; exact rfl; exact rfl; exact rfl) | (apply w_pickF; exact rfl; exact rfl; exact rfl) | (apply w_len; exact rfl; exact rfl; first | exact .ints _ | exact .intss _ | exact .sli rfl | exact .sls rfl | exact .slr rfl | exact .orow rfl | exact .nil) | omega | ((first | apply w_lss | apply w_gtr | apply w_add | apply w_idx | apply w_ld); iterate 3 exact rfl) | (apply w_idxo; exact rfl; exact rfl; (exact .sls rfl); exact rfl) | ((first | apply w_idxr | apply w_ldr); iterate 4 exact rfl) | (apply w_ldls; iterate 4 exact rfl) | (apply w_ldrp; iterate 4 exact rfl) | (apply inI_of <;> omega))
      exact ⟨i + 1, by omega, by omega, ⟨lee rfl (by (repeat (first | exact le_nil | refine le_eq rfl rfl ?_))), by (repeat (first | exact lo_nil | refine lo_eq rfl ?_)), rfl, rfl⟩⟩
    · repeat' (first | (apply AOps.nil; try simp only [List.nil_append, List.cons_append, List.set_cons_zero, List.set_cons_succ, List.length_cons, List.length_nil, Nat.reduceAdd, AV.sh, AV.sh1, AV.sh0, AO.sh, List.map_cons, List.map_nil, Nat.zero_add, Nat.add_zero, setAll]) | (apply w_move; exact rfl; exact rfl) | (apply w_assign; exact rfl; exact rfl) | apply AWp.seq | apply AWp.region | ((apply AWp.condP; exact rfl) <;> intro h) | apply AWp.block | apply AWp.ret | apply AWp.exit | apply AWp.skip | (apply w_len; exact rfl; exact rfl; first | exact .ints _ | exact .intss _ | exact .sli rfl | exact .sls rfl | exact .slr rfl | exact .orow rfl | exact .nil) | omega | ((apply w_lss); iterate 3 exact rfl))
      exact ⟨_, _, _, .a2 Try.results32 rfl rfl, .tup2 (.sls rfl), rfl, rfl⟩
  · obtain ⟨e1, e2⟩ := sos_lim ⟨ha, hb⟩ h2
    rw [e1, e2]
    obtain ⟨j, hj, hbad⟩ : ∃ j : Nat, j < (vsum a b).length ∧ ¬ R60 ((vsum a b).getD (j : Int).toNat []) := by
      apply Classical.byContradiction
      intro hn
      refine h2 fun r hr => Classical.byContradiction fun hz => ?_
      obtain ⟨j, hj⟩ := List.getElem?_of_mem hr
      exact hn ⟨j, (List.getElem?_eq_some_iff.1 hj).1, by rw [Int.toNat_natCast, List.getD_eq_getElem?_getD, hj]; exact hz⟩
    generalize vsum a b = Z at *
    repeat' (first | (apply AOps.nil; try simp only [List.nil_append, List.cons_append, List.set_cons_zero, List.set_cons_succ, List.length_cons, List.length_nil, Nat.reduceAdd, AV.sh, AV.sh1, AV.sh0, AO.sh, List.map_cons, List.map_nil, Nat.zero_add, Nat.add_zero, setAll]) | (apply w_move; exact rfl; exact rfl) | (apply w_assign; exact rfl; exact rfl) | apply AWp.seq | apply AWp.region | (apply AWp.condF; exact rfl) | apply AWp.block | apply AWp.skip | (apply w_pickF; exact rfl; exact rfl; exact rfl) | (apply w_call (s1); exact rfl; exact rfl; focus ((repeat (first | exact im_nil | refine im_cons rfl (.intss _) ?_)); done)) | (apply w_call (s2); exact rfl; exact rfl; focus ((repeat (first | exact im_nil | refine im_cons rfl (.intss _) ?_)); done)) | (apply w_callm (c3); (focus ((repeat (first | exact im_nil | refine im_cons rfl (.intss _) ?_)); done)); rintro r os0 ⟨rfl, rfl⟩; try simp only [List.nil_append, List.cons_append, List.set_cons_zero, List.set_cons_succ, List.length_cons, List.length_nil, Nat.reduceAdd, AV.sh, AV.sh1, AV.sh0, AO.sh, List.map_cons, List.map_nil, Nat.zero_add, Nat.add_zero, setAll]) | ((apply w_not); iterate 2 exact rfl))
    refine AWp.loop (ι := Nat) (fun i => ⟨42, [(6, .own 0), (7, .i i)]⟩) (fun i => [.sls 38 2 Z]) (fun i => i ≤ j) (fun i => Z.length - i) 0 (by omega) ⟨lee rfl (by (repeat (first | exact le_nil | refine le_eq rfl rfl ?_))), by (repeat (first | exact lo_nil | refine lo_eq rfl ?_)), rfl, rfl⟩ ?_
    rintro i i0
    obtain ⟨a1, a2, a3⟩ := hr i (by omega)
    by_cases h3 : R60 (Z.getD (i : Int).toNat [])
    · have hne : i ≠ j := fun e => by subst e; exact hbad h3
      have h4 : (0 ≤ geti (Z.getD (i : Int).toNat []) ((Int.toNat 0 : Nat) : Int) ∧ geti (Z.getD (i : Int).toNat []) ((Int.toNat 0 : Nat) : Int) ≤ 60) ∧ (0 ≤ geti (Z.getD (i : Int).toNat []) ((Int.toNat 1 : Nat) : Int) ∧ geti (Z.getD (i : Int).toNat []) ((Int.toNat 1 : Nat) : Int) ≤ 60) := h3
      repeat' (first | (apply AOps.nil; try simp only [List.nil_append, List.cons_append, List.set_cons_zero, List.set_cons_succ, List.length_cons, List.length_nil, Nat.reduceAdd, AV.sh, AV.sh1, AV.sh0, AO.sh, List.map_cons, List.map_nil, Nat.zero_add, Nat.add_zero, setAll]) | ((apply AOps.splitP; exact rfl; exact rfl) <;> intro h) | (apply w_move; exact rfl; exact rfl) | (apply w_assign; exact rfl; exact rfl) | apply AWp.seq | apply AWp.region | ((apply AWp.condP; exact rfl) <;> intro h) | (apply AWp.condT; exact rfl) | apply AWp.block | apply AWp.ret | apply AWp.exit | apply AWp.skip | (apply w_skip; exact rfl) | (apply w_pickT; exact rfl; exact rfl; exact rfl) | (apply w_pickF; exact rfl; exact rfl; exact rfl) | (apply w_len; exact rfl; exact rfl; first | exact .ints _ | exact .intss _ | exact .sli rfl | exact .sls rfl | exact .slr rfl | exact .orow rfl | exact .nil) | omega | ((first | apply w_lss | apply w_gtr | apply w_add | apply w_idx | apply w_ld); iterate 3 exact rfl) | (apply w_idxo; exact rfl; exact rfl; (exact .sls rfl); exact rfl) | ((first | apply w_idxr | apply w_ldr); iterate 4 exact rfl) | (apply w_ldls; iterate 4 exact rfl) | (apply w_ldrp; iterate 4 exact rfl) | (apply inI_of <;> omega))
      exact ⟨i + 1, by omega, by omega, ⟨lee rfl (by (repeat (first | exact le_nil | refine le_eq rfl rfl ?_))), by (repeat (first | exact lo_nil | refine lo_eq rfl ?_)), rfl, rfl⟩⟩
    · have h4 : ¬ ((0 ≤ geti (Z.getD (i : Int).toNat []) ((Int.toNat 0 : Nat) : Int) ∧ geti (Z.getD (i : Int).toNat []) ((Int.toNat 0 : Nat) : Int) ≤ 60) ∧ (0 ≤ geti (Z.getD (i : Int).toNat []) ((Int.toNat 1 : Nat) : Int) ∧ geti (Z.getD (i : Int).toNat []) ((Int.toNat 1 : Nat) : Int) ≤ 60)) := h3
      repeat' (first | (apply AOps.nil; try simp only [List.nil_append, List.cons_append, List.set_cons_zero, List.set_cons_succ, List.length_cons, List.length_nil, Nat.reduceAdd, AV.sh, AV.sh1, AV.sh0, AO.sh, List.map_cons, List.map_nil, Nat.zero_add, Nat.add_zero, setAll]) | ((apply AOps.splitP; exact rfl; exact rfl) <;> intro h) | (apply w_move; exact rfl; exact rfl) | (apply w_assign; exact rfl; exact rfl) | apply AWp.seq | apply AWp.region | ((apply AWp.condP; exact rfl) <;> intro h) | (apply AWp.condT; exact rfl) | apply AWp.block | apply AWp.ret | apply AWp.exit | apply AWp.skip | (apply w_skip; exact rfl) | (apply w_pickT; exact rfl; exact rfl; exact rfl) | (apply w_pickF; exact rfl; exact rfl; exact rfl) | (apply w_len; exact rfl; exact rfl; first | exact .ints _ | exact .intss _ | exact .sli rfl | exact .sls rfl | exact .slr rfl | exact .orow rfl | exact .nil) | omega | ((first | apply w_lss | apply w_gtr | apply w_idx | apply w_ld); iterate 3 exact rfl) | (apply w_idxo; exact rfl; exact rfl; (exact .sls rfl); exact rfl) | ((first | apply w_idxr | apply w_ldr); iterate 4 exact rfl) | (apply w_ldls; iterate 4 exact rfl) | (apply w_ldrp; iterate 4 exact rfl))
      all_goals exact ⟨_, _, _, .a2 Try.results32 rfl rfl, .tup2 (.nils 38 2), rfl, rfl⟩
end Go.Proofs.Ythlfdhooiekgjaa
/-
  The law of the polygon of edges. No condition.
-/
namespace Go.Proofs.Ythlfdhooiekgjaa
open Go Go.RowKit
attribute [local irreducible] AWp AOps ResIs Ret1 QOp LOp COp AFnV AFn Imms LeE LeO
set_option maxHeartbeats 1000000
set_option linter.unusedSimpArgs false
set_option linter.unusedVariables false

end Go.Proofs.Ythlfdhooiekgjaa
/-
  Mixed areas on both sides; the laws. No condition.
-/
namespace Go.Proofs.Ythlfdhooiekgjaa
open Go Go.RowKit
attribute [local irreducible] AWp AOps ResIs Ret1 QOp LOp COp AFnV AFn Imms LeE LeO
set_option maxHeartbeats 1000000
set_option linter.unusedSimpArgs false
set_option linter.unusedVariables false

theorem vfP_getD {L : List (List Int)} {p : List Int} : ∀ n, n ≤ L.length → geti ((vfP p L).getD n []) 0 = geti p 0 + sS E0 (L.take n) ∧ geti ((vfP p L).getD n []) 1 = geti p 1 - sS E1 (L.take n)
  | 0, _ => by rw [vfP_0]; simp [sS]
  | n + 1, h => by
    obtain ⟨i1, i2⟩ := vfP_getD (L := L) (p := p) n (by omega)
    rw [vfP_succ L p n (by omega), sS_take_succ _ _ _ (by omega), sS_take_succ _ _ _ (by omega), geti_p0, geti_p1]
    simp only [E0, E1] at *
    omega
theorem gets_D (V : List (List Int)) (n : Nat) : gets V (n : Nat) = V.getD n [] := by simp [gets, List.getD_eq_getElem?_getD]
theorem conv_last {V : List (List Int)} {B : Int} (h : VOk B V) : geti (gets V ((V.length : Int) - 1)) 1 = geti (V.getD 0 []) 1 - sS E1 (edL V (V.length - 1)) := by
  have e := vf_ed (fun v hv => (h.row v hv).1) h.pos
  have hp := h.pos
  have := (vfP_getD (p := V.getD 0 []) (L := edL V (V.length - 1)) (V.length - 1) (by rw [edL_len]; omega)).2
  rw [e, List.take_of_length_le (by rw [edL_len]; omega)] at this
  rw [show ((V.length : Int) - 1) = ((V.length - 1 : Nat) : Int) by omega, gets_D]
  exact this
theorem ji_ex : ∀ (n : Nat) (Y : List (List Int)), Y.length = n → StS Y → (∀ y ∈ Y, EP y) → ∃ L, JI Y L
  | 0, Y, h, _, _ => by rw [List.eq_nil_of_length_eq_zero h]; exact ⟨[], JI.nil⟩
  | n + 1, Y, h, hs, hp => by
    rcases List.eq_nil_or_concat Y with rfl | ⟨Y, e, rfl⟩
    · simp at h
    · rw [List.concat_eq_append] at *
      obtain ⟨h1, h2, h3⟩ := List.pairwise_append.1 hs
      have hY : ∀ y ∈ Y, EP y := fun y hy => hp y (by simp [hy])
      have he : EP e := hp e (by simp)
      have hye : ∀ y ∈ Y, 0 ≤ wS y e := fun y hy => h3 y hy e (by simp)
      obtain ⟨L, hL⟩ := ji_ex n Y (by simpa using h) h1 hY
      by_cases hz : ∀ A l, L = A ++ [l] → wS l e ≠ 0
      · exact ⟨_, hL.push hY he hye hz⟩
      · obtain ⟨A, l, e1, e2⟩ : ∃ A l, L = A ++ [l] ∧ wS l e = 0 := by
          apply Classical.byContradiction
          intro hn
          exact hz fun A l h1 h2 => hn ⟨A, l, h1, h2⟩
        subst e1
        refine ⟨_, hL.same (fun hn => ?_) he hye e2⟩
        have := hL.none hn
        simp at this
theorem join_some {X : List (List Int)} (h : ∀ x ∈ X, EP x) : ∃ L, JoinOf X L := by
  obtain ⟨L, hL⟩ := ji_ex _ (srtE X X.length) rfl (srtE_stS (fun x hx => (h x hx).2.2.1) _ (Nat.le_refl _)) (fun y hy => h y (srtE_mem (Nat.le_refl _) hy))
  exact ⟨L, hL.join.perm (srtE_all X)⟩
theorem join_ex2 (a b : List (List Int)) (ha : isSup a = true) (hb : isSup b = true) : ∃ L, JoinOf (edL (verts a) ((verts a).length - 1) ++ edL (verts b) ((verts b).length - 1)) L :=
  join_some fun e he => by
    rcases List.mem_append.1 he with he | he
    · have := ed_row (sup_ok ha) he; unfold EP; omega
    · have := ed_row (sup_ok hb) he; unfold EP; omega
/-- A join of edges exists. -/
theorem join_ex (a b : List (List Int)) (ha : isSup a = true) (hb : isSup b = true) : (∃ L, JoinOf (edL (verts a) ((verts a).length - 1) ++ edL (verts b) ((verts b).length - 1)) L) → conv (verts a) = true → conv (verts b) = true → conv (vsum a b) = true := by
  rintro ⟨L, hL⟩ ca cb
  have oV := sup_ok ha
  have oW := sup_ok hb
  have hh := sum_hull (hasS ha) (hasS hb) oV oW hL
  have lV := conv_last oV
  have lW := conv_last oW
  simp only [conv, decide_eq_true_eq] at ca cb ⊢
  have g0 := gets_D (verts a) 0
  have g1 := gets_D (verts b) 0
  simp only [Int.natCast_zero] at g0 g1
  rw [g0] at ca
  rw [g1] at cb
  unfold vsum
  rw [hh]
  have hl := vfP_len L (addR ((verts a).getD 0 []) ((verts b).getD 0 []))
  have z0 := gets_D (vfP (addR ((verts a).getD 0 []) ((verts b).getD 0 [])) L) 0
  simp only [Int.natCast_zero] at z0
  have zl := (vfP_getD (p := addR ((verts a).getD 0 []) ((verts b).getD 0 [])) (L := L) L.length (Nat.le_refl _)).2
  rw [List.take_length, hL.tot.2, sS_append] at zl
  rw [z0, vfP_0, hl, show (((L.length + 1 : Nat) : Int) - 1) = ((L.length : Nat) : Int) by omega, gets_D, zl]
  refine ⟨?_, ?_⟩
  · show geti ((verts a).getD 0 []) 0 + geti ((verts b).getD 0 []) 0 = 0; omega
  · show (geti ((verts a).getD 0 []) 1 + geti ((verts b).getD 0 []) 1) - _ = 0; omega

theorem tdiv2_in {x B : Int} (h : -B ≤ x ∧ x ≤ B) : -B ≤ Int.tdiv x 2 ∧ Int.tdiv x 2 ≤ B := by
  by_cases hx : 0 ≤ x
  · rw [Int.tdiv_eq_ediv_of_nonneg hx]; omega
  · have e : Int.tdiv x 2 = -Int.tdiv (-x) 2 := by rw [Int.neg_tdiv]; omega
    rw [e, Int.tdiv_eq_ediv_of_nonneg (by omega)]; omega
open Classical in
noncomputable def maE (a b : List (List Int)) : Int := if isSup a = true ∧ isSup b = true then (if conv (verts a) = true ∧ conv (verts b) = true then 0 else 5) else 1
noncomputable def maA (a b : List (List Int)) : Int := if maE a b = 0 then Int.tdiv (arI (vsum a b) ((vsum a b).length - 1) - arI (verts a) ((verts a).length - 1) - arI (verts b) ((verts b).length - 1)) 2 else 0
theorem ma_no {a b : List (List Int)} (h : ¬ (isSup a = true ∧ isSup b = true)) : maE a b = 1 ∧ maA a b = 0 := by
  have e : maE a b = 1 := if_neg h
  exact ⟨e, by rw [maA, e, if_neg (by decide)]⟩
theorem ma_st {a b : List (List Int)} (h : isSup a = true ∧ isSup b = true) (h2 : ¬ (conv (verts a) = true ∧ conv (verts b) = true)) : maE a b = 5 ∧ maA a b = 0 := by
  have e : maE a b = 5 := by rw [maE, if_pos h, if_neg h2]
  exact ⟨e, by rw [maA, e, if_neg (by decide)]⟩
theorem ma_ok {a b : List (List Int)} (h : isSup a = true ∧ isSup b = true) (h2 : conv (verts a) = true ∧ conv (verts b) = true) : maE a b = 0 ∧ maA a b = Int.tdiv (arI (vsum a b) ((vsum a b).length - 1) - arI (verts a) ((verts a).length - 1) - arI (verts b) ((verts b).length - 1)) 2 := by
  have e : maE a b = 0 := by rw [maE, if_pos h, if_pos h2]
  exact ⟨e, by rw [maA, if_pos e]⟩
set_option maxHeartbeats 8000000 in
theorem implMixedArea_c (a b : List (List Int)) : AFnV Try.prog 29 [.intss a, .intss b] (.tuple #[.int .i64 (maA a b), .int .i64 (maE a b)]) := by
  have s1 := implIsSupport_c a
  have s2 := implIsSupport_c b
  by_cases h : isSup a = true ∧ isSup b = true
  case neg =>
    obtain ⟨e1, e2⟩ := ma_no h
    rw [e1, e2]
    (refine AFnV.start Try.func29 Try.ntmps29 rfl (by kernel_rfl) fun hk => ?_; simp only [Env.start, enumF, List.length_cons, List.length_nil, Nat.reduceAdd, Nat.reduceSub, List.cons_append, List.nil_append])
    cases ha : isSup a
    · rw [ha] at s1
      repeat' (first | (apply AOps.nil; try simp only [List.nil_append, List.cons_append, List.set_cons_zero, List.set_cons_succ, List.length_cons, List.length_nil, Nat.reduceAdd, AV.sh, AV.sh1, AV.sh0, AO.sh, List.map_cons, List.map_nil, Nat.zero_add, Nat.add_zero, setAll]) | (apply w_move; exact rfl; exact rfl) | (apply w_assign; exact rfl; exact rfl) | apply AWp.seq | apply AWp.region | (apply AWp.condT; exact rfl) | apply AWp.ret | (apply w_skip; exact rfl) | (apply w_pickT; exact rfl; exact rfl; exact rfl) | (apply w_call (s1); exact rfl; exact rfl; focus ((repeat (first | exact im_nil | refine im_cons rfl (.intss _) ?_)); done)) | ((apply w_not); iterate 2 exact rfl))
      all_goals exact .intint Try.results29 rfl rfl rfl rfl
    · rw [ha] at s1
      cases hb : isSup b
      · rw [hb] at s2
        repeat' (first | (apply AOps.nil; try simp only [List.nil_append, List.cons_append, List.set_cons_zero, List.set_cons_succ, List.length_cons, List.length_nil, Nat.reduceAdd, AV.sh, AV.sh1, AV.sh0, AO.sh, List.map_cons, List.map_nil, Nat.zero_add, Nat.add_zero, setAll]) | (apply w_move; exact rfl; exact rfl) | (apply w_assign; exact rfl; exact rfl) | apply AWp.seq | apply AWp.region | (apply AWp.condT; exact rfl) | apply AWp.ret | (apply w_pickF; exact rfl; exact rfl; exact rfl) | (apply w_call (s1); exact rfl; exact rfl; focus ((repeat (first | exact im_nil | refine im_cons rfl (.intss _) ?_)); done)) | (apply w_call (s2); exact rfl; exact rfl; focus ((repeat (first | exact im_nil | refine im_cons rfl (.intss _) ?_)); done)) | ((apply w_not); iterate 2 exact rfl))
        all_goals exact .intint Try.results29 rfl rfl rfl rfl
      · exact absurd ⟨ha, hb⟩ h
  obtain ⟨ha, hb⟩ := h
  rw [ha] at s1
  rw [hb] at s2
  have c1 := corS' ha
  have c2 := corS' hb
  have k1 := isConvenient_c _ (sup_ok ha)
  have k2 := isConvenient_c _ (sup_ok hb)
  by_cases hc : conv (verts a) = true ∧ conv (verts b) = true
  case neg =>
    obtain ⟨e1, e2⟩ := ma_st ⟨ha, hb⟩ hc
    rw [e1, e2]
    (refine AFnV.start Try.func29 Try.ntmps29 rfl (by kernel_rfl) fun hk => ?_; simp only [Env.start, enumF, List.length_cons, List.length_nil, Nat.reduceAdd, Nat.reduceSub, List.cons_append, List.nil_append])
    cases ca : conv (verts a)
    · rw [ca] at k1
      repeat' (first | (apply AOps.nil; try simp only [List.nil_append, List.cons_append, List.set_cons_zero, List.set_cons_succ, List.length_cons, List.length_nil, Nat.reduceAdd, AV.sh, AV.sh1, AV.sh0, AO.sh, List.map_cons, List.map_nil, Nat.zero_add, Nat.add_zero, setAll]) | (apply w_move; exact rfl; exact rfl) | (apply w_assign; exact rfl; exact rfl) | apply AWp.seq | apply AWp.region | (apply AWp.condT; exact rfl) | (apply AWp.condF; exact rfl) | apply AWp.ret | apply AWp.skip | (apply w_skip; exact rfl) | (apply w_pickT; exact rfl; exact rfl; exact rfl) | (apply w_pickF; exact rfl; exact rfl; exact rfl) | (apply w_call (s1); exact rfl; exact rfl; focus ((repeat (first | exact im_nil | refine im_cons rfl (.intss _) ?_)); done)) | (apply w_call (s2); exact rfl; exact rfl; focus ((repeat (first | exact im_nil | refine im_cons rfl (.intss _) ?_)); done)) | (apply w_callm (c1); (focus ((repeat (first | exact im_nil | refine im_cons rfl (.intss _) ?_)); done)); rintro r os0 ⟨rfl, rfl⟩; try simp only [List.nil_append, List.cons_append, List.set_cons_zero, List.set_cons_succ, List.length_cons, List.length_nil, Nat.reduceAdd, AV.sh, AV.sh1, AV.sh0, AO.sh, List.map_cons, List.map_nil, Nat.zero_add, Nat.add_zero, setAll]) | (apply w_callm (c2); (focus ((repeat (first | exact im_nil | refine im_cons rfl (.intss _) ?_)); done)); rintro r os0 ⟨rfl, rfl⟩; try simp only [List.nil_append, List.cons_append, List.set_cons_zero, List.set_cons_succ, List.length_cons, List.length_nil, Nat.reduceAdd, AV.sh, AV.sh1, AV.sh0, AO.sh, List.map_cons, List.map_nil, Nat.zero_add, Nat.add_zero, setAll]) | (apply w_call (k1); exact rfl; exact rfl; focus ((repeat (first | exact im_nil | refine im_cons rfl (.sls rfl) ?_)); done)) | ((apply w_not); iterate 2 exact rfl))
      all_goals exact .intint Try.results29 rfl rfl rfl rfl
    · rw [ca] at k1
      cases cb : conv (verts b)
      · rw [cb] at k2
        repeat' (first | (apply AOps.nil; try simp only [List.nil_append, List.cons_append, List.set_cons_zero, List.set_cons_succ, List.length_cons, List.length_nil, Nat.reduceAdd, AV.sh, AV.sh1, AV.sh0, AO.sh, List.map_cons, List.map_nil, Nat.zero_add, Nat.add_zero, setAll]) | (apply w_move; exact rfl; exact rfl) | (apply w_assign; exact rfl; exact rfl) | apply AWp.seq | apply AWp.region | (apply AWp.condT; exact rfl) | (apply AWp.condF; exact rfl) | apply AWp.ret | apply AWp.skip | (apply w_pickF; exact rfl; exact rfl; exact rfl) | (apply w_call (s1); exact rfl; exact rfl; focus ((repeat (first | exact im_nil | refine im_cons rfl (.intss _) ?_)); done)) | (apply w_call (s2); exact rfl; exact rfl; focus ((repeat (first | exact im_nil | refine im_cons rfl (.intss _) ?_)); done)) | (apply w_callm (c1); (focus ((repeat (first | exact im_nil | refine im_cons rfl (.intss _) ?_)); done)); rintro r os0 ⟨rfl, rfl⟩; try simp only [List.nil_append, List.cons_append, List.set_cons_zero, List.set_cons_succ, List.length_cons, List.length_nil, Nat.reduceAdd, AV.sh, AV.sh1, AV.sh0, AO.sh, List.map_cons, List.map_nil, Nat.zero_add, Nat.add_zero, setAll]) | (apply w_callm (c2); (focus ((repeat (first | exact im_nil | refine im_cons rfl (.intss _) ?_)); done)); rintro r os0 ⟨rfl, rfl⟩; try simp only [List.nil_append, List.cons_append, List.set_cons_zero, List.set_cons_succ, List.length_cons, List.length_nil, Nat.reduceAdd, AV.sh, AV.sh1, AV.sh0, AO.sh, List.map_cons, List.map_nil, Nat.zero_add, Nat.add_zero, setAll]) | (apply w_call (k1); exact rfl; exact rfl; focus ((repeat (first | exact im_nil | refine im_cons rfl (.sls rfl) ?_)); done)) | (apply w_call (k2); exact rfl; exact rfl; focus ((repeat (first | exact im_nil | refine im_cons rfl (.sls rfl) ?_)); done)) | ((apply w_not); iterate 2 exact rfl))
        all_goals exact .intint Try.results29 rfl rfl rfl rfl
      · exact absurd ⟨ca, cb⟩ hc
  obtain ⟨e1, e2⟩ := ma_ok ⟨ha, hb⟩ hc
  obtain ⟨ca, cb⟩ := hc
  rw [ca] at k1
  rw [cb] at k2
  have c3 := sumOfCorners_c a b ha hb
  have ar1 := areaOf_c (by decide) _ (sup_ok ha)
  have ar2 := areaOf_c (by decide) _ (sup_ok hb)
  have ar3 := areaOf_c (by decide) _ (vsum_ok ha hb)
  have b1 := arI_in (by decide) (sup_ok ha) ((verts a).length - 1) (by have := (sup_ok ha).pos; omega)
  have b2 := arI_in (by decide) (sup_ok hb) ((verts b).length - 1) (by have := (sup_ok hb).pos; omega)
  have b3 := arI_in (by decide) (vsum_ok ha hb) ((vsum a b).length - 1) (by have := (vsum_ok ha hb).pos; omega)
  have l1 := (sup_ok ha).len
  have l2 := (sup_ok hb).len
  have l3 := (vsum_ok ha hb).len
  have td := tdiv2_in (x := arI (vsum a b) ((vsum a b).length - 1) - arI (verts a) ((verts a).length - 1) - arI (verts b) ((verts b).length - 1)) (B := 9000000000000) (by omega)
  rw [e1, e2]
  (refine AFnV.start Try.func29 Try.ntmps29 rfl (by kernel_rfl) fun hk => ?_; simp only [Env.start, enumF, List.length_cons, List.length_nil, Nat.reduceAdd, Nat.reduceSub, List.cons_append, List.nil_append])
  repeat' (first | (apply AOps.nil; try simp only [List.nil_append, List.cons_append, List.set_cons_zero, List.set_cons_succ, List.length_cons, List.length_nil, Nat.reduceAdd, AV.sh, AV.sh1, AV.sh0, AO.sh, List.map_cons, List.map_nil, Nat.zero_add, Nat.add_zero, setAll]) | (apply w_move; exact rfl; exact rfl) | (apply w_assign; exact rfl; exact rfl) | apply AWp.seq | apply AWp.region | (apply AWp.condF; exact rfl) | apply AWp.ret | apply AWp.skip | (apply w_pickF; exact rfl; exact rfl; exact rfl) | (apply w_call (s1); exact rfl; exact rfl; focus ((repeat (first | exact im_nil | refine im_cons rfl (.intss _) ?_)); done)) | (apply w_call (s2); exact rfl; exact rfl; focus ((repeat (first | exact im_nil | refine im_cons rfl (.intss _) ?_)); done)) | (apply w_callm (c1); (focus ((repeat (first | exact im_nil | refine im_cons rfl (.intss _) ?_)); done)); rintro r os0 ⟨rfl, rfl⟩; try simp only [List.nil_append, List.cons_append, List.set_cons_zero, List.set_cons_succ, List.length_cons, List.length_nil, Nat.reduceAdd, AV.sh, AV.sh1, AV.sh0, AO.sh, List.map_cons, List.map_nil, Nat.zero_add, Nat.add_zero, setAll]) | (apply w_callm (c2); (focus ((repeat (first | exact im_nil | refine im_cons rfl (.intss _) ?_)); done)); rintro r os0 ⟨rfl, rfl⟩; try simp only [List.nil_append, List.cons_append, List.set_cons_zero, List.set_cons_succ, List.length_cons, List.length_nil, Nat.reduceAdd, AV.sh, AV.sh1, AV.sh0, AO.sh, List.map_cons, List.map_nil, Nat.zero_add, Nat.add_zero, setAll]) | (apply w_call (k1); exact rfl; exact rfl; focus ((repeat (first | exact im_nil | refine im_cons rfl (.sls rfl) ?_)); done)) | (apply w_call (k2); exact rfl; exact rfl; focus ((repeat (first | exact im_nil | refine im_cons rfl (.sls rfl) ?_)); done)) | (apply w_callm (c3); (focus ((repeat (first | exact im_nil | refine im_cons rfl (.sls rfl) ?_)); done)); rintro r os0 ⟨rfl, rfl⟩; try simp only [List.nil_append, List.cons_append, List.set_cons_zero, List.set_cons_succ, List.length_cons, List.length_nil, Nat.reduceAdd, AV.sh, AV.sh1, AV.sh0, AO.sh, List.map_cons, List.map_nil, Nat.zero_add, Nat.add_zero, setAll]) | (apply w_call (ar1); exact rfl; exact rfl; focus ((repeat (first | exact im_nil | refine im_cons rfl (.sls rfl) ?_)); done)) | (apply w_call (ar2); exact rfl; exact rfl; focus ((repeat (first | exact im_nil | refine im_cons rfl (.sls rfl) ?_)); done)) | (apply w_call (ar3); exact rfl; exact rfl; focus ((repeat (first | exact im_nil | refine im_cons rfl (.sls rfl) ?_)); done)) | omega | ((apply w_sub); iterate 3 exact rfl) | (apply w_quoT; exact rfl; exact rfl; exact rfl) | ((apply w_not); iterate 2 exact rfl) | (apply inI_of <;> omega))
  all_goals exact .intint Try.results29 rfl rfl rfl rfl
set_option maxHeartbeats 8000000 in
theorem specMixedArea_c (a b : List (List Int)) : AFnV Try.prog 30 [.intss a, .intss b] (.tuple #[.int .i64 (maA a b), .int .i64 (maE a b)]) := by
  have s1 := l15Is_c a
  have s2 := l15Is_c b
  by_cases h : isSup a = true ∧ isSup b = true
  case neg =>
    obtain ⟨e1, e2⟩ := ma_no h
    rw [e1, e2]
    (refine AFnV.start Try.func30 Try.ntmps30 rfl (by kernel_rfl) fun hk => ?_; simp only [Env.start, enumF, List.length_cons, List.length_nil, Nat.reduceAdd, Nat.reduceSub, List.cons_append, List.nil_append])
    cases ha : isSup a
    · rw [ha] at s1
      repeat' (first | (apply AOps.nil; try simp only [List.nil_append, List.cons_append, List.set_cons_zero, List.set_cons_succ, List.length_cons, List.length_nil, Nat.reduceAdd, AV.sh, AV.sh1, AV.sh0, AO.sh, List.map_cons, List.map_nil, Nat.zero_add, Nat.add_zero, setAll]) | (apply w_move; exact rfl; exact rfl) | (apply w_assign; exact rfl; exact rfl) | apply AWp.seq | apply AWp.region | (apply AWp.condT; exact rfl) | apply AWp.ret | (apply w_skip; exact rfl) | (apply w_pickT; exact rfl; exact rfl; exact rfl) | (apply w_call (s1); exact rfl; exact rfl; focus ((repeat (first | exact im_nil | refine im_cons rfl (.intss _) ?_)); done)) | ((apply w_not); iterate 2 exact rfl))
      all_goals exact .intint Try.results30 rfl rfl rfl rfl
    · rw [ha] at s1
      cases hb : isSup b
      · rw [hb] at s2
        repeat' (first | (apply AOps.nil; try simp only [List.nil_append, List.cons_append, List.set_cons_zero, List.set_cons_succ, List.length_cons, List.length_nil, Nat.reduceAdd, AV.sh, AV.sh1, AV.sh0, AO.sh, List.map_cons, List.map_nil, Nat.zero_add, Nat.add_zero, setAll]) | (apply w_move; exact rfl; exact rfl) | (apply w_assign; exact rfl; exact rfl) | apply AWp.seq | apply AWp.region | (apply AWp.condT; exact rfl) | apply AWp.ret | (apply w_pickF; exact rfl; exact rfl; exact rfl) | (apply w_call (s1); exact rfl; exact rfl; focus ((repeat (first | exact im_nil | refine im_cons rfl (.intss _) ?_)); done)) | (apply w_call (s2); exact rfl; exact rfl; focus ((repeat (first | exact im_nil | refine im_cons rfl (.intss _) ?_)); done)) | ((apply w_not); iterate 2 exact rfl))
        all_goals exact .intint Try.results30 rfl rfl rfl rfl
      · exact absurd ⟨ha, hb⟩ h
  obtain ⟨ha, hb⟩ := h
  rw [ha] at s1
  rw [hb] at s2
  have c1 := verS' ha
  have c2 := verS' hb
  have k1 := l15Convenient_c _ (sup_ok ha)
  have k2 := l15Convenient_c _ (sup_ok hb)
  by_cases hc : conv (verts a) = true ∧ conv (verts b) = true
  case neg =>
    obtain ⟨e1, e2⟩ := ma_st ⟨ha, hb⟩ hc
    rw [e1, e2]
    (refine AFnV.start Try.func30 Try.ntmps30 rfl (by kernel_rfl) fun hk => ?_; simp only [Env.start, enumF, List.length_cons, List.length_nil, Nat.reduceAdd, Nat.reduceSub, List.cons_append, List.nil_append])
    cases ca : conv (verts a)
    · rw [ca] at k1
      repeat' (first | (apply AOps.nil; try simp only [List.nil_append, List.cons_append, List.set_cons_zero, List.set_cons_succ, List.length_cons, List.length_nil, Nat.reduceAdd, AV.sh, AV.sh1, AV.sh0, AO.sh, List.map_cons, List.map_nil, Nat.zero_add, Nat.add_zero, setAll]) | (apply w_move; exact rfl; exact rfl) | (apply w_assign; exact rfl; exact rfl) | apply AWp.seq | apply AWp.region | (apply AWp.condT; exact rfl) | (apply AWp.condF; exact rfl) | apply AWp.ret | apply AWp.skip | (apply w_skip; exact rfl) | (apply w_pickT; exact rfl; exact rfl; exact rfl) | (apply w_pickF; exact rfl; exact rfl; exact rfl) | (apply w_call (s1); exact rfl; exact rfl; focus ((repeat (first | exact im_nil | refine im_cons rfl (.intss _) ?_)); done)) | (apply w_call (s2); exact rfl; exact rfl; focus ((repeat (first | exact im_nil | refine im_cons rfl (.intss _) ?_)); done)) | (apply w_callm (c1); (focus ((repeat (first | exact im_nil | refine im_cons rfl (.intss _) ?_)); done)); rintro r os0 ⟨rfl, rfl⟩; try simp only [List.nil_append, List.cons_append, List.set_cons_zero, List.set_cons_succ, List.length_cons, List.length_nil, Nat.reduceAdd, AV.sh, AV.sh1, AV.sh0, AO.sh, List.map_cons, List.map_nil, Nat.zero_add, Nat.add_zero, setAll]) | (apply w_callm (c2); (focus ((repeat (first | exact im_nil | refine im_cons rfl (.intss _) ?_)); done)); rintro r os0 ⟨rfl, rfl⟩; try simp only [List.nil_append, List.cons_append, List.set_cons_zero, List.set_cons_succ, List.length_cons, List.length_nil, Nat.reduceAdd, AV.sh, AV.sh1, AV.sh0, AO.sh, List.map_cons, List.map_nil, Nat.zero_add, Nat.add_zero, setAll]) | (apply w_call (k1); exact rfl; exact rfl; focus ((repeat (first | exact im_nil | refine im_cons rfl (.sls rfl) ?_)); done)) | ((apply w_not); iterate 2 exact rfl))
      all_goals exact .intint Try.results30 rfl rfl rfl rfl
    · rw [ca] at k1
      cases cb : conv (verts b)
      · rw [cb] at k2
        repeat' (first | (apply AOps.nil; try simp only [List.nil_append, List.cons_append, List.set_cons_zero, List.set_cons_succ, List.length_cons, List.length_nil, Nat.reduceAdd, AV.sh, AV.sh1, AV.sh0, AO.sh, List.map_cons, List.map_nil, Nat.zero_add, Nat.add_zero, setAll]) | (apply w_move; exact rfl; exact rfl) | (apply w_assign; exact rfl; exact rfl) | apply AWp.seq | apply AWp.region | (apply AWp.condT; exact rfl) | (apply AWp.condF; exact rfl) | apply AWp.ret | apply AWp.skip | (apply w_pickF; exact rfl; exact rfl; exact rfl) | (apply w_call (s1); exact rfl; exact rfl; focus ((repeat (first | exact im_nil | refine im_cons rfl (.intss _) ?_)); done)) | (apply w_call (s2); exact rfl; exact rfl; focus ((repeat (first | exact im_nil | refine im_cons rfl (.intss _) ?_)); done)) | (apply w_callm (c1); (focus ((repeat (first | exact im_nil | refine im_cons rfl (.intss _) ?_)); done)); rintro r os0 ⟨rfl, rfl⟩; try simp only [List.nil_append, List.cons_append, List.set_cons_zero, List.set_cons_succ, List.length_cons, List.length_nil, Nat.reduceAdd, AV.sh, AV.sh1, AV.sh0, AO.sh, List.map_cons, List.map_nil, Nat.zero_add, Nat.add_zero, setAll]) | (apply w_callm (c2); (focus ((repeat (first | exact im_nil | refine im_cons rfl (.intss _) ?_)); done)); rintro r os0 ⟨rfl, rfl⟩; try simp only [List.nil_append, List.cons_append, List.set_cons_zero, List.set_cons_succ, List.length_cons, List.length_nil, Nat.reduceAdd, AV.sh, AV.sh1, AV.sh0, AO.sh, List.map_cons, List.map_nil, Nat.zero_add, Nat.add_zero, setAll]) | (apply w_call (k1); exact rfl; exact rfl; focus ((repeat (first | exact im_nil | refine im_cons rfl (.sls rfl) ?_)); done)) | (apply w_call (k2); exact rfl; exact rfl; focus ((repeat (first | exact im_nil | refine im_cons rfl (.sls rfl) ?_)); done)) | ((apply w_not); iterate 2 exact rfl))
        all_goals exact .intint Try.results30 rfl rfl rfl rfl
      · exact absurd ⟨ca, cb⟩ hc
  obtain ⟨e1, e2⟩ := ma_ok ⟨ha, hb⟩ hc
  obtain ⟨ca, cb⟩ := hc
  rw [ca] at k1
  rw [cb] at k2
  have c3 := l15Sum_c a b ha hb
  have cs := join_ex a b ha hb (join_ex2 a b ha hb) ca cb
  have ar1 := l15Area_c (by decide) _ (sup_ok ha) ca
  have ar2 := l15Area_c (by decide) _ (sup_ok hb) cb
  have ar3 := l15Area_c (by decide) _ (vsum_ok ha hb) cs
  have b1 := arI_in (by decide) (sup_ok ha) ((verts a).length - 1) (by have := (sup_ok ha).pos; omega)
  have b2 := arI_in (by decide) (sup_ok hb) ((verts b).length - 1) (by have := (sup_ok hb).pos; omega)
  have b3 := arI_in (by decide) (vsum_ok ha hb) ((vsum a b).length - 1) (by have := (vsum_ok ha hb).pos; omega)
  have l1 := (sup_ok ha).len
  have l2 := (sup_ok hb).len
  have l3 := (vsum_ok ha hb).len
  have td := tdiv2_in (x := arI (vsum a b) ((vsum a b).length - 1) - arI (verts a) ((verts a).length - 1) - arI (verts b) ((verts b).length - 1)) (B := 9000000000000) (by omega)
  rw [e1, e2]
  (refine AFnV.start Try.func30 Try.ntmps30 rfl (by kernel_rfl) fun hk => ?_; simp only [Env.start, enumF, List.length_cons, List.length_nil, Nat.reduceAdd, Nat.reduceSub, List.cons_append, List.nil_append])
  repeat' (first | (apply AOps.nil; try simp only [List.nil_append, List.cons_append, List.set_cons_zero, List.set_cons_succ, List.length_cons, List.length_nil, Nat.reduceAdd, AV.sh, AV.sh1, AV.sh0, AO.sh, List.map_cons, List.map_nil, Nat.zero_add, Nat.add_zero, setAll]) | (apply w_move; exact rfl; exact rfl) | (apply w_assign; exact rfl; exact rfl) | apply AWp.seq | apply AWp.region | (apply AWp.condF; exact rfl) | apply AWp.ret | apply AWp.skip | (apply w_pickF; exact rfl; exact rfl; exact rfl) | (apply w_call (s1); exact rfl; exact rfl; focus ((repeat (first | exact im_nil | refine im_cons rfl (.intss _) ?_)); done)) | (apply w_call (s2); exact rfl; exact rfl; focus ((repeat (first | exact im_nil | refine im_cons rfl (.intss _) ?_)); done)) | (apply w_callm (c1); (focus ((repeat (first | exact im_nil | refine im_cons rfl (.intss _) ?_)); done)); rintro r os0 ⟨rfl, rfl⟩; try simp only [List.nil_append, List.cons_append, List.set_cons_zero, List.set_cons_succ, List.length_cons, List.length_nil, Nat.reduceAdd, AV.sh, AV.sh1, AV.sh0, AO.sh, List.map_cons, List.map_nil, Nat.zero_add, Nat.add_zero, setAll]) | (apply w_callm (c2); (focus ((repeat (first | exact im_nil | refine im_cons rfl (.intss _) ?_)); done)); rintro r os0 ⟨rfl, rfl⟩; try simp only [List.nil_append, List.cons_append, List.set_cons_zero, List.set_cons_succ, List.length_cons, List.length_nil, Nat.reduceAdd, AV.sh, AV.sh1, AV.sh0, AO.sh, List.map_cons, List.map_nil, Nat.zero_add, Nat.add_zero, setAll]) | (apply w_call (k1); exact rfl; exact rfl; focus ((repeat (first | exact im_nil | refine im_cons rfl (.sls rfl) ?_)); done)) | (apply w_call (k2); exact rfl; exact rfl; focus ((repeat (first | exact im_nil | refine im_cons rfl (.sls rfl) ?_)); done)) | (apply w_callm (c3); (focus ((repeat (first | exact im_nil | refine im_cons rfl (.intss _) ?_)); done)); rintro r os0 ⟨rfl, rfl⟩; try simp only [List.nil_append, List.cons_append, List.set_cons_zero, List.set_cons_succ, List.length_cons, List.length_nil, Nat.reduceAdd, AV.sh, AV.sh1, AV.sh0, AO.sh, List.map_cons, List.map_nil, Nat.zero_add, Nat.add_zero, setAll]) | (apply w_call (ar1); exact rfl; exact rfl; focus ((repeat (first | exact im_nil | refine im_cons rfl (.sls rfl) ?_)); done)) | (apply w_call (ar2); exact rfl; exact rfl; focus ((repeat (first | exact im_nil | refine im_cons rfl (.sls rfl) ?_)); done)) | (apply w_call (ar3); exact rfl; exact rfl; focus ((repeat (first | exact im_nil | refine im_cons rfl (.sls rfl) ?_)); done)) | omega | ((apply w_sub); iterate 3 exact rfl) | (apply w_quoT; exact rfl; exact rfl; exact rfl) | ((apply w_not); iterate 2 exact rfl) | (apply inI_of <;> omega))
  all_goals exact .intint Try.results30 rfl rfl rfl rfl

theorem sosL_ok (a b : List (List Int)) : (sosL a b).length ≤ 1000 ∧ ∀ xs ∈ sosL a b, xs.length ≤ 1048576 := by
  by_cases h : isSup a = true ∧ isSup b = true
  · by_cases h2 : ∀ r ∈ vsum a b, R60 r
    · rw [(sos_ok h h2).2]
      have hv := vsum_ok h.1 h.2
      refine ⟨by have := hv.len; omega, fun xs hx => by have := hv.row xs hx; omega⟩
    · rw [(sos_lim h h2).2]; simp
  · rw [(sos_no h).2]; simp
end Go.Proofs.Ythlfdhooiekgjaa
/-
  Vertices, edges, areas of supports: the exported functions. No condition.
-/
namespace Go.Proofs.Ythlfdhooiekgjaa
open Go Go.RowKit
attribute [local irreducible] AWp AOps ResIs Ret1 QOp LOp COp AFnV AFn Imms LeE LeO
set_option maxHeartbeats 1000000
set_option linter.unusedSimpArgs false
set_option linter.unusedVariables false

noncomputable def suE (xss : List (List Int)) : Int := if isSup xss = true then 0 else 1
noncomputable def nvL (xss : List (List Int)) : List (List Int) := if isSup xss = true then verts xss else []
noncomputable def neL (xss : List (List Int)) : List (List Int) := if isSup xss = true then edL (verts xss) ((verts xss).length - 1) else []
noncomputable def cvE (xss : List (List Int)) : Int := if isSup xss = true then (if conv (verts xss) = true then 0 else 5) else 1
noncomputable def cvL (xss : List (List Int)) : List (List Int) := if cvE xss = 0 then verts xss else []

theorem corS {xss : List (List Int)} (h : isSup xss = true) : AFn Try.prog 37 [.intss xss] (IsIntss 38 2 (verts xss)) := corners_c xss (sup_rows h).1.1 (by have := (sup_rows h).1.2; omega) (sup_pb h)
theorem verS {xss : List (List Int)} (h : isSup xss = true) : AFn Try.prog 39 [.intss xss] (IsIntss 38 2 (verts xss)) := l15Vertices_c xss (sup_rows h).1.1 (by have := (sup_rows h).1.2; omega) (sup_pb h)


theorem implNewtonVertices_c (xss : List (List Int)) : AFn Try.prog 7 [.intss xss] (IsSSC 38 2 (nvL xss) (suE xss)) := by
  (refine AFn.start Try.func7 Try.ntmps7 rfl (by kernel_rfl) fun hk => ?_; simp only [Env.start, enumF, List.length_cons, List.length_nil, Nat.reduceAdd, Nat.reduceSub, List.cons_append, List.nil_append])
  have c1 := implIsSupport_c xss
  cases h1 : isSup xss with
  | false =>
    rw [h1] at c1
    repeat' (first | (apply AOps.nil; try simp only [List.nil_append, List.cons_append, List.set_cons_zero, List.set_cons_succ, List.length_cons, List.length_nil, Nat.reduceAdd, AV.sh, AV.sh1, AV.sh0, AO.sh, List.map_cons, List.map_nil, Nat.zero_add, Nat.add_zero, setAll]) | (apply w_move; exact rfl; exact rfl) | (apply w_assign; exact rfl; exact rfl) | apply AWp.seq | apply AWp.region | (apply AWp.condT; exact rfl) | apply AWp.ret | (apply w_call (c1); exact rfl; exact rfl; focus ((repeat (first | exact im_nil | refine im_cons rfl (.intss _) ?_)); done)) | ((apply w_not); iterate 2 exact rfl))
    all_goals exact ⟨_, _, _, .a2 Try.results7 rfl rfl, .tup2 (.nils 38 2), by simp [suE, h1], by simp [nvL, h1]⟩
  | true =>
    rw [h1] at c1
    repeat' (first | (apply AOps.nil; try simp only [List.nil_append, List.cons_append, List.set_cons_zero, List.set_cons_succ, List.length_cons, List.length_nil, Nat.reduceAdd, AV.sh, AV.sh1, AV.sh0, AO.sh, List.map_cons, List.map_nil, Nat.zero_add, Nat.add_zero, setAll]) | (apply w_move; exact rfl; exact rfl) | (apply w_assign; exact rfl; exact rfl) | apply AWp.seq | apply AWp.region | (apply AWp.condF; exact rfl) | apply AWp.ret | apply AWp.skip | (apply w_call (c1); exact rfl; exact rfl; focus ((repeat (first | exact im_nil | refine im_cons rfl (.intss _) ?_)); done)) | (apply w_callm (corS h1); (focus ((repeat (first | exact im_nil | refine im_cons rfl (.intss _) ?_)); done)); rintro r os0 ⟨rfl, rfl⟩; try simp only [List.nil_append, List.cons_append, List.set_cons_zero, List.set_cons_succ, List.length_cons, List.length_nil, Nat.reduceAdd, AV.sh, AV.sh1, AV.sh0, AO.sh, List.map_cons, List.map_nil, Nat.zero_add, Nat.add_zero, setAll]) | ((apply w_not); iterate 2 exact rfl))
    all_goals exact ⟨_, _, _, .a2 Try.results7 rfl rfl, .tup2 (.sls rfl), by simp [suE, h1], by simp [nvL, h1]⟩

theorem implNewtonEdges_c (xss : List (List Int)) : AFn Try.prog 12 [.intss xss] (IsSSC 38 2 (neL xss) (suE xss)) := by
  (refine AFn.start Try.func12 Try.ntmps12 rfl (by kernel_rfl) fun hk => ?_; simp only [Env.start, enumF, List.length_cons, List.length_nil, Nat.reduceAdd, Nat.reduceSub, List.cons_append, List.nil_append])
  have c1 := implIsSupport_c xss
  cases h1 : isSup xss with
  | false =>
    rw [h1] at c1
    repeat' (first | (apply AOps.nil; try simp only [List.nil_append, List.cons_append, List.set_cons_zero, List.set_cons_succ, List.length_cons, List.length_nil, Nat.reduceAdd, AV.sh, AV.sh1, AV.sh0, AO.sh, List.map_cons, List.map_nil, Nat.zero_add, Nat.add_zero, setAll]) | (apply w_move; exact rfl; exact rfl) | (apply w_assign; exact rfl; exact rfl) | apply AWp.seq | apply AWp.region | (apply AWp.condT; exact rfl) | apply AWp.ret | (apply w_call (c1); exact rfl; exact rfl; focus ((repeat (first | exact im_nil | refine im_cons rfl (.intss _) ?_)); done)) | ((apply w_not); iterate 2 exact rfl))
    all_goals exact ⟨_, _, _, .a2 Try.results12 rfl rfl, .tup2 (.nils 38 2), by simp [suE, h1], by simp [neL, h1]⟩
  | true =>
    rw [h1] at c1
    repeat' (first | (apply AOps.nil; try simp only [List.nil_append, List.cons_append, List.set_cons_zero, List.set_cons_succ, List.length_cons, List.length_nil, Nat.reduceAdd, AV.sh, AV.sh1, AV.sh0, AO.sh, List.map_cons, List.map_nil, Nat.zero_add, Nat.add_zero, setAll]) | (apply w_move; exact rfl; exact rfl) | (apply w_assign; exact rfl; exact rfl) | apply AWp.seq | apply AWp.region | (apply AWp.condF; exact rfl) | apply AWp.ret | apply AWp.skip | (apply w_call (c1); exact rfl; exact rfl; focus ((repeat (first | exact im_nil | refine im_cons rfl (.intss _) ?_)); done)) | (apply w_callm (corS h1); (focus ((repeat (first | exact im_nil | refine im_cons rfl (.intss _) ?_)); done)); rintro r os0 ⟨rfl, rfl⟩; try simp only [List.nil_append, List.cons_append, List.set_cons_zero, List.set_cons_succ, List.length_cons, List.length_nil, Nat.reduceAdd, AV.sh, AV.sh1, AV.sh0, AO.sh, List.map_cons, List.map_nil, Nat.zero_add, Nat.add_zero, setAll]) | (apply w_callm (edgesBetween_c (by decide) _ (sup_ok h1)); (focus ((repeat (first | exact im_nil | refine im_cons rfl (.sls rfl) ?_)); done)); rintro r os0 ⟨rfl, rfl⟩; try simp only [List.nil_append, List.cons_append, List.set_cons_zero, List.set_cons_succ, List.length_cons, List.length_nil, Nat.reduceAdd, AV.sh, AV.sh1, AV.sh0, AO.sh, List.map_cons, List.map_nil, Nat.zero_add, Nat.add_zero, setAll]) | ((apply w_not); iterate 2 exact rfl))
    all_goals exact ⟨_, _, _, .a2 Try.results12 rfl rfl, .tup2 (.sls rfl), by simp [suE, h1], by simp [neL, h1]⟩

theorem l15Code_c (xss : List (List Int)) : AFn Try.prog 57 [.intss xss] (IsSSC 38 2 (cvL xss) (cvE xss)) := by
  (refine AFn.start Try.func57 Try.ntmps57 rfl (by kernel_rfl) fun hk => ?_; simp only [Env.start, enumF, List.length_cons, List.length_nil, Nat.reduceAdd, Nat.reduceSub, List.cons_append, List.nil_append])
  have c1 := l15Is_c xss
  cases h1 : isSup xss with
  | false =>
    have e1 : cvE xss = 1 := by simp [cvE, h1]
    rw [h1] at c1
    repeat' (first | (apply AOps.nil; try simp only [List.nil_append, List.cons_append, List.set_cons_zero, List.set_cons_succ, List.length_cons, List.length_nil, Nat.reduceAdd, AV.sh, AV.sh1, AV.sh0, AO.sh, List.map_cons, List.map_nil, Nat.zero_add, Nat.add_zero, setAll]) | (apply w_move; exact rfl; exact rfl) | (apply w_assign; exact rfl; exact rfl) | apply AWp.seq | apply AWp.region | (apply AWp.condT; exact rfl) | apply AWp.ret | (apply w_call (c1); exact rfl; exact rfl; focus ((repeat (first | exact im_nil | refine im_cons rfl (.intss _) ?_)); done)) | ((apply w_not); iterate 2 exact rfl))
    all_goals exact ⟨_, _, _, .a2 Try.results57 rfl rfl, .tup2 (.nils 38 2), by rw [e1], by simp [cvL, e1]⟩
  | true =>
    rw [h1] at c1
    have c2 := l15Convenient_c _ (sup_ok h1)
    cases h2 : conv (verts xss) with
    | false =>
      have e1 : cvE xss = 5 := by simp [cvE, h1, h2]
      rw [h2] at c2
      repeat' (first | (apply AOps.nil; try simp only [List.nil_append, List.cons_append, List.set_cons_zero, List.set_cons_succ, List.length_cons, List.length_nil, Nat.reduceAdd, AV.sh, AV.sh1, AV.sh0, AO.sh, List.map_cons, List.map_nil, Nat.zero_add, Nat.add_zero, setAll]) | (apply w_move; exact rfl; exact rfl) | (apply w_assign; exact rfl; exact rfl) | apply AWp.seq | apply AWp.region | (apply AWp.condT; exact rfl) | (apply AWp.condF; exact rfl) | apply AWp.ret | apply AWp.skip | (apply w_call (c1); exact rfl; exact rfl; focus ((repeat (first | exact im_nil | refine im_cons rfl (.intss _) ?_)); done)) | (apply w_callm (verS h1); (focus ((repeat (first | exact im_nil | refine im_cons rfl (.intss _) ?_)); done)); rintro r os0 ⟨rfl, rfl⟩; try simp only [List.nil_append, List.cons_append, List.set_cons_zero, List.set_cons_succ, List.length_cons, List.length_nil, Nat.reduceAdd, AV.sh, AV.sh1, AV.sh0, AO.sh, List.map_cons, List.map_nil, Nat.zero_add, Nat.add_zero, setAll]) | (apply w_call (c2); exact rfl; exact rfl; focus ((repeat (first | exact im_nil | refine im_cons rfl (.sls rfl) ?_)); done)) | ((apply w_not); iterate 2 exact rfl))
      all_goals exact ⟨_, _, _, .a2 Try.results57 rfl rfl, .tup2 (.nils 38 2), by rw [e1], by simp [cvL, e1]⟩
    | true =>
      have e1 : cvE xss = 0 := by simp [cvE, h1, h2]
      rw [h2] at c2
      repeat' (first | (apply AOps.nil; try simp only [List.nil_append, List.cons_append, List.set_cons_zero, List.set_cons_succ, List.length_cons, List.length_nil, Nat.reduceAdd, AV.sh, AV.sh1, AV.sh0, AO.sh, List.map_cons, List.map_nil, Nat.zero_add, Nat.add_zero, setAll]) | (apply w_move; exact rfl; exact rfl) | (apply w_assign; exact rfl; exact rfl) | apply AWp.seq | apply AWp.region | (apply AWp.condF; exact rfl) | apply AWp.ret | apply AWp.skip | (apply w_call (c1); exact rfl; exact rfl; focus ((repeat (first | exact im_nil | refine im_cons rfl (.intss _) ?_)); done)) | (apply w_callm (verS h1); (focus ((repeat (first | exact im_nil | refine im_cons rfl (.intss _) ?_)); done)); rintro r os0 ⟨rfl, rfl⟩; try simp only [List.nil_append, List.cons_append, List.set_cons_zero, List.set_cons_succ, List.length_cons, List.length_nil, Nat.reduceAdd, AV.sh, AV.sh1, AV.sh0, AO.sh, List.map_cons, List.map_nil, Nat.zero_add, Nat.add_zero, setAll]) | (apply w_call (c2); exact rfl; exact rfl; focus ((repeat (first | exact im_nil | refine im_cons rfl (.sls rfl) ?_)); done)) | ((apply w_not); iterate 2 exact rfl))
      all_goals exact ⟨_, _, _, .a2 Try.results57 rfl rfl, .tup2 (.sls rfl), by rw [e1], by simp [cvL, e1]⟩
theorem convenientCorners_c (xss : List (List Int)) : AFn Try.prog 55 [.intss xss] (IsSSC 38 2 (cvL xss) (cvE xss)) := by
  (refine AFn.start Try.func55 Try.ntmps55 rfl (by kernel_rfl) fun hk => ?_; simp only [Env.start, enumF, List.length_cons, List.length_nil, Nat.reduceAdd, Nat.reduceSub, List.cons_append, List.nil_append])
  have c1 := implIsSupport_c xss
  cases h1 : isSup xss with
  | false =>
    have e1 : cvE xss = 1 := by simp [cvE, h1]
    rw [h1] at c1
    repeat' (first | (apply AOps.nil; try simp only [List.nil_append, List.cons_append, List.set_cons_zero, List.set_cons_succ, List.length_cons, List.length_nil, Nat.reduceAdd, AV.sh, AV.sh1, AV.sh0, AO.sh, List.map_cons, List.map_nil, Nat.zero_add, Nat.add_zero, setAll]) | (apply w_move; exact rfl; exact rfl) | (apply w_assign; exact rfl; exact rfl) | apply AWp.seq | apply AWp.region | (apply AWp.condT; exact rfl) | apply AWp.ret | (apply w_call (c1); exact rfl; exact rfl; focus ((repeat (first | exact im_nil | refine im_cons rfl (.intss _) ?_)); done)) | ((apply w_not); iterate 2 exact rfl))
    all_goals exact ⟨_, _, _, .a2 Try.results55 rfl rfl, .tup2 (.nils 38 2), by rw [e1], by simp [cvL, e1]⟩
  | true =>
    rw [h1] at c1
    have c2 := isConvenient_c _ (sup_ok h1)
    cases h2 : conv (verts xss) with
    | false =>
      have e1 : cvE xss = 5 := by simp [cvE, h1, h2]
      rw [h2] at c2
      repeat' (first | (apply AOps.nil; try simp only [List.nil_append, List.cons_append, List.set_cons_zero, List.set_cons_succ, List.length_cons, List.length_nil, Nat.reduceAdd, AV.sh, AV.sh1, AV.sh0, AO.sh, List.map_cons, List.map_nil, Nat.zero_add, Nat.add_zero, setAll]) | (apply w_move; exact rfl; exact rfl) | (apply w_assign; exact rfl; exact rfl) | apply AWp.seq | apply AWp.region | (apply AWp.condT; exact rfl) | (apply AWp.condF; exact rfl) | apply AWp.ret | apply AWp.skip | (apply w_call (c1); exact rfl; exact rfl; focus ((repeat (first | exact im_nil | refine im_cons rfl (.intss _) ?_)); done)) | (apply w_callm (corS h1); (focus ((repeat (first | exact im_nil | refine im_cons rfl (.intss _) ?_)); done)); rintro r os0 ⟨rfl, rfl⟩; try simp only [List.nil_append, List.cons_append, List.set_cons_zero, List.set_cons_succ, List.length_cons, List.length_nil, Nat.reduceAdd, AV.sh, AV.sh1, AV.sh0, AO.sh, List.map_cons, List.map_nil, Nat.zero_add, Nat.add_zero, setAll]) | (apply w_call (c2); exact rfl; exact rfl; focus ((repeat (first | exact im_nil | refine im_cons rfl (.sls rfl) ?_)); done)) | ((apply w_not); iterate 2 exact rfl))
      all_goals exact ⟨_, _, _, .a2 Try.results55 rfl rfl, .tup2 (.nils 38 2), by rw [e1], by simp [cvL, e1]⟩
    | true =>
      have e1 : cvE xss = 0 := by simp [cvE, h1, h2]
      rw [h2] at c2
      repeat' (first | (apply AOps.nil; try simp only [List.nil_append, List.cons_append, List.set_cons_zero, List.set_cons_succ, List.length_cons, List.length_nil, Nat.reduceAdd, AV.sh, AV.sh1, AV.sh0, AO.sh, List.map_cons, List.map_nil, Nat.zero_add, Nat.add_zero, setAll]) | (apply w_move; exact rfl; exact rfl) | (apply w_assign; exact rfl; exact rfl) | apply AWp.seq | apply AWp.region | (apply AWp.condF; exact rfl) | apply AWp.ret | apply AWp.skip | (apply w_call (c1); exact rfl; exact rfl; focus ((repeat (first | exact im_nil | refine im_cons rfl (.intss _) ?_)); done)) | (apply w_callm (corS h1); (focus ((repeat (first | exact im_nil | refine im_cons rfl (.intss _) ?_)); done)); rintro r os0 ⟨rfl, rfl⟩; try simp only [List.nil_append, List.cons_append, List.set_cons_zero, List.set_cons_succ, List.length_cons, List.length_nil, Nat.reduceAdd, AV.sh, AV.sh1, AV.sh0, AO.sh, List.map_cons, List.map_nil, Nat.zero_add, Nat.add_zero, setAll]) | (apply w_call (c2); exact rfl; exact rfl; focus ((repeat (first | exact im_nil | refine im_cons rfl (.sls rfl) ?_)); done)) | ((apply w_not); iterate 2 exact rfl))
      all_goals exact ⟨_, _, _, .a2 Try.results55 rfl rfl, .tup2 (.sls rfl), by rw [e1], by simp [cvL, e1]⟩

theorem cv_parts {xss : List (List Int)} (h : cvE xss = 0) : isSup xss = true ∧ conv (verts xss) = true ∧ cvL xss = verts xss := by
  refine ⟨?_, ?_, by simp [cvL, h]⟩
  · unfold cvE at h; split at h
    · assumption
    · simp at h
  · unfold cvE at h; split at h
    · split at h
      · assumption
      · simp at h
    · simp at h
noncomputable def abA (xss : List (List Int)) : Int := if cvE xss = 0 then arI (verts xss) ((verts xss).length - 1) else 0
noncomputable def nnA (xss : List (List Int)) : Int := if cvE xss = 0 then arI (verts xss) ((verts xss).length - 1) - geti (gets (verts xss) 0) 1 - geti (gets (verts xss) (((verts xss).length : Int) - 1)) 0 + 1 else 0

theorem specAreaBelow_c (xss : List (List Int)) : AFnV Try.prog 27 [.intss xss] (.tuple #[.int .i64 (abA xss), .int .i64 (cvE xss)]) := by
  (refine AFnV.start Try.func27 Try.ntmps27 rfl (by kernel_rfl) fun hk => ?_; simp only [Env.start, enumF, List.length_cons, List.length_nil, Nat.reduceAdd, Nat.reduceSub, List.cons_append, List.nil_append])
  have c1 := l15Code_c xss
  by_cases hh : cvE xss = 0
  · obtain ⟨h1, h2, h3⟩ := cv_parts hh
    rw [h3, hh] at c1
    repeat' (first | (apply AOps.nil; try simp only [List.nil_append, List.cons_append, List.set_cons_zero, List.set_cons_succ, List.length_cons, List.length_nil, Nat.reduceAdd, AV.sh, AV.sh1, AV.sh0, AO.sh, List.map_cons, List.map_nil, Nat.zero_add, Nat.add_zero, setAll]) | (apply w_move; exact rfl; exact rfl) | (apply w_assign; exact rfl; exact rfl) | apply AWp.seq | apply AWp.region | ((apply AWp.condP; exact rfl) <;> intro h) | apply AWp.ret | apply AWp.skip | (apply w_callm (c1); (focus ((repeat (first | exact im_nil | refine im_cons rfl (.intss _) ?_)); done)); rintro r os0 ⟨rfl, rfl⟩; try simp only [List.nil_append, List.cons_append, List.set_cons_zero, List.set_cons_succ, List.length_cons, List.length_nil, Nat.reduceAdd, AV.sh, AV.sh1, AV.sh0, AO.sh, List.map_cons, List.map_nil, Nat.zero_add, Nat.add_zero, setAll]) | (apply w_call (l15Area_c (by decide) _ (sup_ok h1) h2); exact rfl; exact rfl; focus ((repeat (first | exact im_nil | refine im_cons rfl (.sls rfl) ?_)); done)) | omega | ((first | apply w_neq | apply w_extv); iterate 3 exact rfl) | ((apply w_ext); iterate 3 exact rfl))
    all_goals exact .intint Try.results27 rfl rfl (by simp [abA, hh]) (by simp [hh])
  · repeat' (first | (apply AOps.nil; try simp only [List.nil_append, List.cons_append, List.set_cons_zero, List.set_cons_succ, List.length_cons, List.length_nil, Nat.reduceAdd, AV.sh, AV.sh1, AV.sh0, AO.sh, List.map_cons, List.map_nil, Nat.zero_add, Nat.add_zero, setAll]) | (apply w_move; exact rfl; exact rfl) | (apply w_assign; exact rfl; exact rfl) | apply AWp.seq | apply AWp.region | ((apply AWp.condP; exact rfl) <;> intro h) | apply AWp.ret | apply AWp.skip | (apply w_callm (c1); (focus ((repeat (first | exact im_nil | refine im_cons rfl (.intss _) ?_)); done)); rintro r os0 ⟨rfl, rfl⟩; try simp only [List.nil_append, List.cons_append, List.set_cons_zero, List.set_cons_succ, List.length_cons, List.length_nil, Nat.reduceAdd, AV.sh, AV.sh1, AV.sh0, AO.sh, List.map_cons, List.map_nil, Nat.zero_add, Nat.add_zero, setAll]) | omega | ((first | apply w_neq | apply w_extv); iterate 3 exact rfl) | ((apply w_ext); iterate 3 exact rfl))
    all_goals exact .intint Try.results27 rfl rfl (by simp [abA, hh]) rfl
theorem implAreaBelow_c (xss : List (List Int)) : AFnV Try.prog 26 [.intss xss] (.tuple #[.int .i64 (abA xss), .int .i64 (cvE xss)]) := by
  (refine AFnV.start Try.func26 Try.ntmps26 rfl (by kernel_rfl) fun hk => ?_; simp only [Env.start, enumF, List.length_cons, List.length_nil, Nat.reduceAdd, Nat.reduceSub, List.cons_append, List.nil_append])
  have c1 := convenientCorners_c xss
  by_cases hh : cvE xss = 0
  · obtain ⟨h1, h2, h3⟩ := cv_parts hh
    rw [h3, hh] at c1
    repeat' (first | (apply AOps.nil; try simp only [List.nil_append, List.cons_append, List.set_cons_zero, List.set_cons_succ, List.length_cons, List.length_nil, Nat.reduceAdd, AV.sh, AV.sh1, AV.sh0, AO.sh, List.map_cons, List.map_nil, Nat.zero_add, Nat.add_zero, setAll]) | (apply w_move; exact rfl; exact rfl) | (apply w_assign; exact rfl; exact rfl) | apply AWp.seq | apply AWp.region | ((apply AWp.condP; exact rfl) <;> intro h) | apply AWp.ret | apply AWp.skip | (apply w_callm (c1); (focus ((repeat (first | exact im_nil | refine im_cons rfl (.intss _) ?_)); done)); rintro r os0 ⟨rfl, rfl⟩; try simp only [List.nil_append, List.cons_append, List.set_cons_zero, List.set_cons_succ, List.length_cons, List.length_nil, Nat.reduceAdd, AV.sh, AV.sh1, AV.sh0, AO.sh, List.map_cons, List.map_nil, Nat.zero_add, Nat.add_zero, setAll]) | (apply w_call (areaOf_c (by decide) _ (sup_ok h1)); exact rfl; exact rfl; focus ((repeat (first | exact im_nil | refine im_cons rfl (.sls rfl) ?_)); done)) | omega | ((first | apply w_neq | apply w_extv); iterate 3 exact rfl) | ((apply w_ext); iterate 3 exact rfl))
    all_goals exact .intint Try.results26 rfl rfl (by simp [abA, hh]) (by simp [hh])
  · repeat' (first | (apply AOps.nil; try simp only [List.nil_append, List.cons_append, List.set_cons_zero, List.set_cons_succ, List.length_cons, List.length_nil, Nat.reduceAdd, AV.sh, AV.sh1, AV.sh0, AO.sh, List.map_cons, List.map_nil, Nat.zero_add, Nat.add_zero, setAll]) | (apply w_move; exact rfl; exact rfl) | (apply w_assign; exact rfl; exact rfl) | apply AWp.seq | apply AWp.region | ((apply AWp.condP; exact rfl) <;> intro h) | apply AWp.ret | apply AWp.skip | (apply w_callm (c1); (focus ((repeat (first | exact im_nil | refine im_cons rfl (.intss _) ?_)); done)); rintro r os0 ⟨rfl, rfl⟩; try simp only [List.nil_append, List.cons_append, List.set_cons_zero, List.set_cons_succ, List.length_cons, List.length_nil, Nat.reduceAdd, AV.sh, AV.sh1, AV.sh0, AO.sh, List.map_cons, List.map_nil, Nat.zero_add, Nat.add_zero, setAll]) | omega | ((first | apply w_neq | apply w_extv); iterate 3 exact rfl) | ((apply w_ext); iterate 3 exact rfl))
    all_goals exact .intint Try.results26 rfl rfl (by simp [abA, hh]) rfl

theorem nn_facts {B : Int} {V : List (List Int)} (hB : B ≤ 100000) (h : VOk B V) : (0 < V.length ∧ V.length ≤ 100001) ∧ (-(20000000000 * 100001) ≤ arI V (V.length - 1) ∧ arI V (V.length - 1) ≤ 20000000000 * 100001) ∧
    ((gets V 0).length = 2 ∧ (0 ≤ geti (gets V 0) 1 ∧ geti (gets V 0) 1 ≤ 100000)) ∧ ((gets V ((V.length : Int) - 1)).length = 2 ∧ (0 ≤ geti (gets V ((V.length : Int) - 1)) 0 ∧ geti (gets V ((V.length : Int) - 1)) 0 ≤ 100000)) := by
  have hp := h.pos
  have hl := h.len
  have a1 := arI_in hB h (V.length - 1) (by omega)
  obtain ⟨p1, p2, p3⟩ := h.at 0 hp
  obtain ⟨q1, q2, q3⟩ := h.at (V.length - 1) (by omega)
  rw [show (((V.length - 1 : Nat) : Nat) : Int) = (V.length : Int) - 1 by omega] at q1 q2 q3
  simp only [Int.natCast_zero] at p1 p2 p3
  omega
theorem specNewtonNumber_c (xss : List (List Int)) : AFnV Try.prog 25 [.intss xss] (.tuple #[.int .i64 (nnA xss), .int .i64 (cvE xss)]) := by
  (refine AFnV.start Try.func25 Try.ntmps25 rfl (by kernel_rfl) fun hk => ?_; simp only [Env.start, enumF, List.length_cons, List.length_nil, Nat.reduceAdd, Nat.reduceSub, List.cons_append, List.nil_append])
  have c1 := l15Code_c xss
  by_cases hh : cvE xss = 0
  · obtain ⟨h1, h2, h3⟩ := cv_parts hh
    rw [h3, hh] at c1
    obtain ⟨n1, n2, n3, n4⟩ := nn_facts (by decide) (sup_ok h1)
    have n3' : (((verts xss).getD (Int.toNat 0) []).length = 2 ∧ (0 ≤ geti ((verts xss).getD (Int.toNat 0) []) ((Int.toNat 1 : Nat) : Int) ∧ geti ((verts xss).getD (Int.toNat 0) []) ((Int.toNat 1 : Nat) : Int) ≤ 100000)) := n3
    have n4' : ((verts xss).getD (((verts xss).length : Int) - 1).toNat []).length = 2 ∧ (0 ≤ geti ((verts xss).getD (((verts xss).length : Int) - 1).toNat []) ((Int.toNat 0 : Nat) : Int) ∧ geti ((verts xss).getD (((verts xss).length : Int) - 1).toNat []) ((Int.toNat 0 : Nat) : Int) ≤ 100000) := n4
    repeat' (first | (apply AOps.nil; try simp only [List.nil_append, List.cons_append, List.set_cons_zero, List.set_cons_succ, List.length_cons, List.length_nil, Nat.reduceAdd, AV.sh, AV.sh1, AV.sh0, AO.sh, List.map_cons, List.map_nil, Nat.zero_add, Nat.add_zero, setAll]) | (apply w_move; exact rfl; exact rfl) | (apply w_assign; exact rfl; exact rfl) | apply AWp.seq | apply AWp.region | ((apply AWp.condP; exact rfl) <;> intro h) | apply AWp.ret | apply AWp.skip | (apply AWp.regionQ; kernel_rfl; kernel_rfl) | (apply w_len; exact rfl; exact rfl; first | exact .ints _ | exact .intss _ | exact .sli rfl | exact .sls rfl | exact .slr rfl | exact .orow rfl | exact .nil) | (apply w_callm (c1); (focus ((repeat (first | exact im_nil | refine im_cons rfl (.intss _) ?_)); done)); rintro r os0 ⟨rfl, rfl⟩; try simp only [List.nil_append, List.cons_append, List.set_cons_zero, List.set_cons_succ, List.length_cons, List.length_nil, Nat.reduceAdd, AV.sh, AV.sh1, AV.sh0, AO.sh, List.map_cons, List.map_nil, Nat.zero_add, Nat.add_zero, setAll]) | (apply w_call (l15Area_c (by decide) _ (sup_ok h1) h2); exact rfl; exact rfl; focus ((repeat (first | exact im_nil | refine im_cons rfl (.sls rfl) ?_)); done)) | omega | ((first | apply w_neq | apply w_add | apply w_sub | apply w_idx | apply w_ld | apply w_extv); iterate 3 exact rfl) | ((first | apply w_idxs | apply w_lds | apply w_ext); iterate 3 exact rfl) | (apply w_idxo; exact rfl; exact rfl; (exact .sls rfl); exact rfl) | ((first | apply w_idxr | apply w_ldr); iterate 4 exact rfl) | (apply w_ldls; iterate 4 exact rfl) | (apply w_ldrp; iterate 4 exact rfl) | (apply inI_of <;> omega))
    all_goals exact .intint Try.results25 rfl rfl (by rw [nnA, if_pos hh]; rfl) (by simp [hh])
  · repeat' (first | (apply AOps.nil; try simp only [List.nil_append, List.cons_append, List.set_cons_zero, List.set_cons_succ, List.length_cons, List.length_nil, Nat.reduceAdd, AV.sh, AV.sh1, AV.sh0, AO.sh, List.map_cons, List.map_nil, Nat.zero_add, Nat.add_zero, setAll]) | (apply w_move; exact rfl; exact rfl) | (apply w_assign; exact rfl; exact rfl) | apply AWp.seq | apply AWp.region | ((apply AWp.condP; exact rfl) <;> intro h) | apply AWp.ret | apply AWp.skip | (apply AWp.regionQ; kernel_rfl; kernel_rfl) | (apply w_callm (c1); (focus ((repeat (first | exact im_nil | refine im_cons rfl (.intss _) ?_)); done)); rintro r os0 ⟨rfl, rfl⟩; try simp only [List.nil_append, List.cons_append, List.set_cons_zero, List.set_cons_succ, List.length_cons, List.length_nil, Nat.reduceAdd, AV.sh, AV.sh1, AV.sh0, AO.sh, List.map_cons, List.map_nil, Nat.zero_add, Nat.add_zero, setAll]) | omega | ((first | apply w_neq | apply w_extv); iterate 3 exact rfl) | ((apply w_ext); iterate 3 exact rfl))
    all_goals exact .intint Try.results25 rfl rfl (by simp [nnA, hh]) rfl
theorem implNewtonNumber_c (xss : List (List Int)) : AFnV Try.prog 24 [.intss xss] (.tuple #[.int .i64 (nnA xss), .int .i64 (cvE xss)]) := by
  (refine AFnV.start Try.func24 Try.ntmps24 rfl (by kernel_rfl) fun hk => ?_; simp only [Env.start, enumF, List.length_cons, List.length_nil, Nat.reduceAdd, Nat.reduceSub, List.cons_append, List.nil_append])
  have c1 := convenientCorners_c xss
  by_cases hh : cvE xss = 0
  · obtain ⟨h1, h2, h3⟩ := cv_parts hh
    rw [h3, hh] at c1
    obtain ⟨n1, n2, n3, n4⟩ := nn_facts (by decide) (sup_ok h1)
    have n3' : (((verts xss).getD (Int.toNat 0) []).length = 2 ∧ (0 ≤ geti ((verts xss).getD (Int.toNat 0) []) ((Int.toNat 1 : Nat) : Int) ∧ geti ((verts xss).getD (Int.toNat 0) []) ((Int.toNat 1 : Nat) : Int) ≤ 100000)) := n3
    have n4' : ((verts xss).getD (((verts xss).length : Int) - 1).toNat []).length = 2 ∧ (0 ≤ geti ((verts xss).getD (((verts xss).length : Int) - 1).toNat []) ((Int.toNat 0 : Nat) : Int) ∧ geti ((verts xss).getD (((verts xss).length : Int) - 1).toNat []) ((Int.toNat 0 : Nat) : Int) ≤ 100000) := n4
    repeat' (first | (apply AOps.nil; try simp only [List.nil_append, List.cons_append, List.set_cons_zero, List.set_cons_succ, List.length_cons, List.length_nil, Nat.reduceAdd, AV.sh, AV.sh1, AV.sh0, AO.sh, List.map_cons, List.map_nil, Nat.zero_add, Nat.add_zero, setAll]) | (apply w_move; exact rfl; exact rfl) | (apply w_assign; exact rfl; exact rfl) | apply AWp.seq | apply AWp.region | ((apply AWp.condP; exact rfl) <;> intro h) | apply AWp.ret | apply AWp.skip | (apply AWp.regionQ; kernel_rfl; kernel_rfl) | (apply w_len; exact rfl; exact rfl; first | exact .ints _ | exact .intss _ | exact .sli rfl | exact .sls rfl | exact .slr rfl | exact .orow rfl | exact .nil) | (apply w_callm (c1); (focus ((repeat (first | exact im_nil | refine im_cons rfl (.intss _) ?_)); done)); rintro r os0 ⟨rfl, rfl⟩; try simp only [List.nil_append, List.cons_append, List.set_cons_zero, List.set_cons_succ, List.length_cons, List.length_nil, Nat.reduceAdd, AV.sh, AV.sh1, AV.sh0, AO.sh, List.map_cons, List.map_nil, Nat.zero_add, Nat.add_zero, setAll]) | (apply w_call (areaOf_c (by decide) _ (sup_ok h1)); exact rfl; exact rfl; focus ((repeat (first | exact im_nil | refine im_cons rfl (.sls rfl) ?_)); done)) | omega | ((first | apply w_neq | apply w_add | apply w_sub | apply w_idx | apply w_ld | apply w_extv); iterate 3 exact rfl) | ((first | apply w_idxs | apply w_lds | apply w_ext); iterate 3 exact rfl) | (apply w_idxo; exact rfl; exact rfl; (exact .sls rfl); exact rfl) | ((first | apply w_idxr | apply w_ldr); iterate 4 exact rfl) | (apply w_ldls; iterate 4 exact rfl) | (apply w_ldrp; iterate 4 exact rfl) | (apply inI_of <;> omega))
    all_goals exact .intint Try.results24 rfl rfl (by rw [nnA, if_pos hh]; show _ = arI (verts xss) ((verts xss).length - 1) - geti ((verts xss).getD (Int.toNat 0) []) ((Int.toNat 1 : Nat) : Int) - geti ((verts xss).getD (((verts xss).length : Int) - 1).toNat []) ((Int.toNat 0 : Nat) : Int) + 1; omega) (by simp [hh])
  · repeat' (first | (apply AOps.nil; try simp only [List.nil_append, List.cons_append, List.set_cons_zero, List.set_cons_succ, List.length_cons, List.length_nil, Nat.reduceAdd, AV.sh, AV.sh1, AV.sh0, AO.sh, List.map_cons, List.map_nil, Nat.zero_add, Nat.add_zero, setAll]) | (apply w_move; exact rfl; exact rfl) | (apply w_assign; exact rfl; exact rfl) | apply AWp.seq | apply AWp.region | ((apply AWp.condP; exact rfl) <;> intro h) | apply AWp.ret | apply AWp.skip | (apply AWp.regionQ; kernel_rfl; kernel_rfl) | (apply w_callm (c1); (focus ((repeat (first | exact im_nil | refine im_cons rfl (.intss _) ?_)); done)); rintro r os0 ⟨rfl, rfl⟩; try simp only [List.nil_append, List.cons_append, List.set_cons_zero, List.set_cons_succ, List.length_cons, List.length_nil, Nat.reduceAdd, AV.sh, AV.sh1, AV.sh0, AO.sh, List.map_cons, List.map_nil, Nat.zero_add, Nat.add_zero, setAll]) | omega | ((first | apply w_neq | apply w_extv); iterate 3 exact rfl) | ((apply w_ext); iterate 3 exact rfl))
    all_goals exact .intint Try.results24 rfl rfl (by simp [nnA, hh]) rfl
end Go.Proofs.Ythlfdhooiekgjaa
/-
  The greatest common divisor, in the program and in the model. No condition but that both numbers are no greater than 2^62.
-/
namespace Go.Proofs.Ythlfdhooiekgjaa
open Go Go.RowKit
attribute [local irreducible] AWp AOps ResIs Ret1 QOp LOp COp AFnV AFn Imms LeE LeO
set_option maxHeartbeats 1000000
set_option linter.unusedSimpArgs false
set_option linter.unusedVariables false

theorem gcd_step (a b : Int) (h0 : 0 ≤ a) (h : 0 < b) : Int.gcd b (a % b) = Int.gcd a b := by
  obtain ⟨x, rfl⟩ := Int.eq_ofNat_of_zero_le h0
  obtain ⟨y, rfl⟩ := Int.eq_ofNat_of_zero_le (Int.le_of_lt h)
  rw [← Int.natCast_emod]
  simp only [Int.gcd_natCast_natCast]
  rw [Nat.gcd_comm x y, Nat.gcd_comm y]
  exact (Nat.gcd_rec y x).symm

def mid (a : Int) : Prop := -4611686018427387904 ≤ a ∧ a ≤ 4611686018427387904

theorem abs_c (a : Int) (ha : mid a) : AFnV Try.prog 72 [.i a] (.int .i64 a.natAbs) := by
  unfold mid at ha
  (refine AFnV.start Try.func72 Try.ntmps72 rfl (by kernel_rfl) fun hk => ?_; simp only [Env.start, enumF, List.length_cons, List.length_nil, Nat.reduceAdd, Nat.reduceSub, List.cons_append, List.nil_append])
  repeat' (first | (apply AOps.nil; try simp only [List.nil_append, List.cons_append, List.set_cons_zero, List.set_cons_succ, List.length_cons, List.length_nil, Nat.reduceAdd, AV.sh, AV.sh1, AV.sh0, AO.sh, List.map_cons, List.map_nil, Nat.zero_add, Nat.add_zero, setAll]) | (apply w_move; exact rfl; exact rfl) | (apply w_assign; exact rfl; exact rfl) | apply AWp.seq | apply AWp.region | ((apply AWp.condP; exact rfl) <;> intro h) | apply AWp.ret | apply AWp.skip | ((apply w_lss); iterate 3 exact rfl) | ((apply w_neg); iterate 2 exact rfl) | (apply inI_of <;> omega))
  all_goals exact .int Try.results72 rfl (by omega)

theorem divisor_c (a b : Int) (ha : mid a) (hb : mid b) : AFnV Try.prog 44 [.i a, .i b] (.int .i64 (Int.gcd a b)) := by
  (refine AFnV.start Try.func44 Try.ntmps44 rfl (by kernel_rfl) fun hk => ?_; simp only [Env.start, enumF, List.length_cons, List.length_nil, Nat.reduceAdd, Nat.reduceSub, List.cons_append, List.nil_append])
  repeat' (first | (apply AOps.nil; try simp only [List.nil_append, List.cons_append, List.set_cons_zero, List.set_cons_succ, List.length_cons, List.length_nil, Nat.reduceAdd, AV.sh, AV.sh1, AV.sh0, AO.sh, List.map_cons, List.map_nil, Nat.zero_add, Nat.add_zero, setAll]) | (apply w_move; exact rfl; exact rfl) | (apply w_assign; exact rfl; exact rfl) | apply AWp.seq | apply AWp.region | apply AWp.block | (apply w_call (abs_c _ ha); exact rfl; exact rfl; focus ((repeat (first | exact im_nil | refine im_cons rfl (.val _) ?_)); done)) | (apply w_call (abs_c _ hb); exact rfl; exact rfl; focus ((repeat (first | exact im_nil | refine im_cons rfl (.val _) ?_)); done)))
  unfold mid at ha hb
  refine AWp.loop (ι := Int × Int) (fun s => ⟨16, [(0, .i s.1), (1, .i s.2)]⟩) (fun _ => []) (fun s => 0 ≤ s.1 ∧ 0 ≤ s.2 ∧ s.1 ≤ 4611686018427387904 ∧ s.2 ≤ 4611686018427387904 ∧ Int.gcd s.1 s.2 = Int.gcd a b) (fun s => s.2.toNat) (a.natAbs, b.natAbs) ⟨by simp, by simp, by simp; omega, by simp; omega, by simp [Int.gcd]⟩ ⟨lee rfl (by (repeat (first | exact le_nil | refine le_eq rfl rfl ?_))), by (repeat (exact lo_nil)), rfl, rfl⟩ ?_
  rintro ⟨x, y⟩ ⟨h0, h1, h2, h3, h4⟩
  simp only at h0 h1 h2 h3 h4
  repeat' (first | (apply AOps.nil; try simp only [List.nil_append, List.cons_append, List.set_cons_zero, List.set_cons_succ, List.length_cons, List.length_nil, Nat.reduceAdd, AV.sh, AV.sh1, AV.sh0, AO.sh, List.map_cons, List.map_nil, Nat.zero_add, Nat.add_zero, setAll]) | (apply w_move; exact rfl; exact rfl) | (apply w_assign; exact rfl; exact rfl) | apply AWp.seq | apply AWp.region | ((apply AWp.condP; exact rfl) <;> intro h) | apply AWp.block | apply AWp.ret | apply AWp.exit | apply AWp.skip | (apply AWp.regionQ; kernel_rfl; kernel_rfl) | ((apply w_gtr); iterate 3 exact rfl) | (apply w_rem; exact rfl; exact rfl; exact rfl; (focus (omega; done)); (focus (omega; done))))
  · have hlt := Int.emod_lt_of_pos x h
    have hge := Int.emod_nonneg x (show y ≠ 0 by omega)
    exact ⟨(y, x % y), ⟨h1, hge, h3, by simp only; omega, by simp only; rw [gcd_step x y h0 h, h4]⟩, by simp only; omega, ⟨lee rfl (by (repeat (first | exact le_nil | refine le_eq rfl rfl ?_))), by (repeat (exact lo_nil)), rfl, rfl⟩⟩
  · have e : y = 0 := by omega
    subst e
    exact .int Try.results44 rfl (by rw [← h4]; simp; omega)

theorem l01Gcd_c (a b : Int) (ha : mid a) (hb : mid b) : AFnV Try.prog 45 [.i a, .i b] (.int .i64 (Int.gcd a b)) := by
  unfold mid at ha hb
  (refine AFnV.start Try.func45 Try.ntmps45 rfl (by kernel_rfl) fun hk => ?_; simp only [Env.start, enumF, List.length_cons, List.length_nil, Nat.reduceAdd, Nat.reduceSub, List.cons_append, List.nil_append])
  repeat' (first | (apply AOps.nil; try simp only [List.nil_append, List.cons_append, List.set_cons_zero, List.set_cons_succ, List.length_cons, List.length_nil, Nat.reduceAdd, AV.sh, AV.sh1, AV.sh0, AO.sh, List.map_cons, List.map_nil, Nat.zero_add, Nat.add_zero, setAll]) | (apply w_move; exact rfl; exact rfl) | (apply w_assign; exact rfl; exact rfl) | apply AWp.seq | apply AWp.region | ((apply AWp.condP; exact rfl) <;> intro h) | apply AWp.block | apply AWp.skip | ((apply w_lss); iterate 3 exact rfl) | ((apply w_neg); iterate 2 exact rfl) | (apply inI_of <;> omega))
  all_goals refine AWp.loop (ι := Int × Int) (fun s => ⟨22, [(0, .i s.1), (1, .i s.2)]⟩) (fun _ => []) (fun s => 0 ≤ s.1 ∧ 0 ≤ s.2 ∧ s.1 ≤ 4611686018427387904 ∧ s.2 ≤ 4611686018427387904 ∧ Int.gcd s.1 s.2 = Int.gcd a b) (fun s => s.2.toNat) (a.natAbs, b.natAbs) ⟨by simp, by simp, by simp; omega, by simp; omega, by simp [Int.gcd]⟩ ⟨lee rfl (by (repeat (first | exact le_nil | refine le_eq rfl (congrArg AV.i (by omega)) ?_))), by (repeat (exact lo_nil)), rfl, rfl⟩ ?_
  all_goals rintro ⟨x, y⟩ ⟨h0, h1, h2, h3, h4⟩
  all_goals simp only at h0 h1 h2 h3 h4
  all_goals repeat' (first | (apply AOps.nil; try simp only [List.nil_append, List.cons_append, List.set_cons_zero, List.set_cons_succ, List.length_cons, List.length_nil, Nat.reduceAdd, AV.sh, AV.sh1, AV.sh0, AO.sh, List.map_cons, List.map_nil, Nat.zero_add, Nat.add_zero, setAll]) | (apply w_move; exact rfl; exact rfl) | (apply w_assign; exact rfl; exact rfl) | apply AWp.seq | apply AWp.region | ((apply AWp.condP; exact rfl) <;> intro h) | apply AWp.block | apply AWp.ret | apply AWp.exit | apply AWp.skip | ((apply w_gtr); iterate 3 exact rfl) | (apply w_rem; exact rfl; exact rfl; exact rfl; (focus (omega; done)); (focus (omega; done))))
  all_goals first
    | (have hlt := Int.emod_lt_of_pos x h
       have hge := Int.emod_nonneg x (show y ≠ 0 by omega)
       exact ⟨(y, x % y), ⟨h1, hge, h3, by simp only; omega, by simp only; rw [gcd_step x y h0 h, h4]⟩, by simp only; omega, ⟨lee rfl (by (repeat (first | exact le_nil | refine le_eq rfl rfl ?_))), by (repeat (exact lo_nil)), rfl, rfl⟩⟩)
    | (have e : y = 0 := by omega
       subst e
       exact .int Try.results45 rfl (by rw [← h4]; simp; omega))
end Go.Proofs.Ythlfdhooiekgjaa
/-
  The threshold of a support, and the branches of its edges. No condition.
-/
namespace Go.Proofs.Ythlfdhooiekgjaa
open Go Go.RowKit
attribute [local irreducible] AWp AOps ResIs Ret1 QOp LOp COp AFnV AFn Imms LeE LeO
set_option maxHeartbeats 1000000
set_option linter.unusedSimpArgs false
set_option linter.unusedVariables false

theorem verts_le {xss : List (List Int)} (h : isSup xss = true) : (verts xss).length ≤ 61 := by have := (sup_ok h).len; omega
/-- Edges of vertices with coordinates of at most 60. -/
def EdOk (E : List (List Int)) : Prop := ∀ i : Nat, i < E.length → (E.getD (i : Int).toNat []).length = 2 ∧ (0 < geti (E.getD (i : Int).toNat []) ((Int.toNat 0 : Nat) : Int) ∧ geti (E.getD (i : Int).toNat []) ((Int.toNat 0 : Nat) : Int) ≤ 60) ∧ (0 < geti (E.getD (i : Int).toNat []) ((Int.toNat 1 : Nat) : Int) ∧ geti (E.getD (i : Int).toNat []) ((Int.toNat 1 : Nat) : Int) ≤ 60)
theorem edL_get (V : List (List Int)) (n i : Nat) (h : i < n) : (edL V n).getD i [] = [geti (gets V ((i : Nat) + 1 : Int)) 0 - geti (gets V (i : Nat)) 0, geti (gets V (i : Nat)) 1 - geti (gets V ((i : Nat) + 1 : Int)) 1] := by
  simp [edL, List.getD_eq_getElem?_getD, h]
theorem edL_ok {V : List (List Int)} (h : VOk 60 V) : EdOk (edL V (V.length - 1)) := by
  intro i hi
  rw [edL_len] at hi
  obtain ⟨p1, p2, p3⟩ := h.at i (by omega)
  obtain ⟨q1, q2, q3⟩ := h.at (i + 1) (by omega)
  rw [show (((i + 1 : Nat) : Nat) : Int) = (i : Int) + 1 by omega] at q1 q2 q3
  have hi2 := h.inc i (by omega)
  show ((edL V (V.length - 1)).getD i []).length = 2 ∧ (0 < geti ((edL V (V.length - 1)).getD i []) 0 ∧ geti ((edL V (V.length - 1)).getD i []) 0 ≤ 60) ∧ (0 < geti ((edL V (V.length - 1)).getD i []) 1 ∧ geti ((edL V (V.length - 1)).getD i []) 1 ≤ 60)
  rw [edL_get V _ i hi]
  refine ⟨rfl, ?_, ?_⟩
  · show 0 < geti (gets V ((i : Nat) + 1 : Int)) 0 - geti (gets V (i : Nat)) 0 ∧ geti (gets V ((i : Nat) + 1 : Int)) 0 - geti (gets V (i : Nat)) 0 ≤ 60
    omega
  · show 0 < geti (gets V (i : Nat)) 1 - geti (gets V ((i : Nat) + 1 : Int)) 1 ∧ geti (gets V (i : Nat)) 1 - geti (gets V ((i : Nat) + 1 : Int)) 1 ≤ 60
    omega

/-! ### Branches of edges -/
def egD (E : List (List Int)) (i : Nat) : Int := Int.gcd (geti (E.getD (i : Int).toNat []) ((Int.toNat 0 : Nat) : Int)) (geti (E.getD (i : Int).toNat []) ((Int.toNat 1 : Nat) : Int))
def ebR (E : List (List Int)) (i : Nat) : List Int := [geti (E.getD (i : Int).toNat []) ((Int.toNat 0 : Nat) : Int) / egD E i, geti (E.getD (i : Int).toNat []) ((Int.toNat 1 : Nat) : Int) / egD E i]
def ebL (E : List (List Int)) : Nat → List (List Int)
  | 0 => []
  | i + 1 => ebL E i ++ List.replicate (egD E i).toNat (ebR E i)
theorem egD_in {E : List (List Int)} (h : EdOk E) (i : Nat) (hi : i < E.length) : 1 ≤ egD E i ∧ egD E i ≤ 60 := by
  obtain ⟨h1, h2, h3⟩ := h i hi
  unfold egD
  have a := Int.gcd_pos_of_ne_zero_left (geti (E.getD (i : Int).toNat []) ((Int.toNat 1 : Nat) : Int)) (show geti (E.getD (i : Int).toNat []) ((Int.toNat 0 : Nat) : Int) ≠ 0 by omega)
  have b := Int.gcd_dvd_left (geti (E.getD (i : Int).toNat []) ((Int.toNat 0 : Nat) : Int)) (geti (E.getD (i : Int).toNat []) ((Int.toNat 1 : Nat) : Int))
  have c := Int.le_of_dvd h2.1 b
  omega
theorem ebL_len {E : List (List Int)} (h : EdOk E) : ∀ i, i ≤ E.length → (ebL E i).length ≤ 60 * i
  | 0, _ => by simp [ebL]
  | i + 1, hi => by
    have ih := ebL_len h i (by omega)
    have := egD_in h i (by omega)
    rw [ebL, List.length_append, List.length_replicate]
    omega
noncomputable def ebF (xss : List (List Int)) : List (List Int) := if isSup xss = true then ebL (edL (verts xss) ((verts xss).length - 1)) ((verts xss).length - 1) else []

/-! ### The threshold -/
def thA (V E : List (List Int)) (i : Nat) : Int := geti (E.getD (i : Int).toNat []) ((Int.toNat 1 : Nat) : Int) * geti (V.getD (i : Int).toNat []) ((Int.toNat 0 : Nat) : Int) + geti (E.getD (i : Int).toNat []) ((Int.toNat 0 : Nat) : Int) * geti (V.getD (i : Int).toNat []) ((Int.toNat 1 : Nat) : Int)
def thB (E : List (List Int)) (i : Nat) : Int := geti (E.getD (i : Int).toNat []) ((Int.toNat 0 : Nat) : Int) + geti (E.getD (i : Int).toNat []) ((Int.toNat 1 : Nat) : Int)
def th0 (V : List (List Int)) : Int := max (geti (V.getD (Int.toNat 0) []) ((Int.toNat 0 : Nat) : Int)) (geti (V.getD ((V.length : Int) - 1).toNat []) ((Int.toNat 1 : Nat) : Int))
def thr (V E : List (List Int)) : Nat → Int × Int
  | 0 => (th0 V, 1)
  | i + 1 => if (thr V E i).1 * thB E i < thA V E i * (thr V E i).2 then (thA V E i, thB E i) else thr V E i
def V60 (V : List (List Int)) : Prop := ∀ i : Nat, i < V.length → (V.getD (i : Int).toNat []).length = 2 ∧ (0 ≤ geti (V.getD (i : Int).toNat []) ((Int.toNat 0 : Nat) : Int) ∧ geti (V.getD (i : Int).toNat []) ((Int.toNat 0 : Nat) : Int) ≤ 60) ∧ (0 ≤ geti (V.getD (i : Int).toNat []) ((Int.toNat 1 : Nat) : Int) ∧ geti (V.getD (i : Int).toNat []) ((Int.toNat 1 : Nat) : Int) ≤ 60)
theorem v60 {V : List (List Int)} (h : VOk 60 V) : V60 V := fun i hi => h.at i hi
theorem mul6 {x y : Int} (hx : 0 ≤ x ∧ x ≤ 60) (hy : 0 ≤ y ∧ y ≤ 60) : 0 ≤ x * y ∧ x * y ≤ 3600 := by
  refine ⟨Int.mul_nonneg hx.1 hy.1, ?_⟩
  have := Int.mul_le_mul hx.2 hy.2 hy.1 (by omega : (0 : Int) ≤ 60)
  omega
theorem th_in {V E : List (List Int)} (hV : V60 V) (hE : EdOk E) (i : Nat) (h1 : i < V.length) (h2 : i < E.length) :
    (0 ≤ geti (E.getD (i : Int).toNat []) ((Int.toNat 1 : Nat) : Int) * geti (V.getD (i : Int).toNat []) ((Int.toNat 0 : Nat) : Int) ∧ geti (E.getD (i : Int).toNat []) ((Int.toNat 1 : Nat) : Int) * geti (V.getD (i : Int).toNat []) ((Int.toNat 0 : Nat) : Int) ≤ 3600) ∧
    (0 ≤ geti (E.getD (i : Int).toNat []) ((Int.toNat 0 : Nat) : Int) * geti (V.getD (i : Int).toNat []) ((Int.toNat 1 : Nat) : Int) ∧ geti (E.getD (i : Int).toNat []) ((Int.toNat 0 : Nat) : Int) * geti (V.getD (i : Int).toNat []) ((Int.toNat 1 : Nat) : Int) ≤ 3600) ∧
    (0 ≤ thA V E i ∧ thA V E i ≤ 7200) ∧ (1 ≤ thB E i ∧ thB E i ≤ 120) := by
  obtain ⟨a1, a2, a3⟩ := hV i h1
  obtain ⟨b1, b2, b3⟩ := hE i h2
  have m1 := mul6 (x := geti (E.getD (i : Int).toNat []) ((Int.toNat 1 : Nat) : Int)) (y := geti (V.getD (i : Int).toNat []) ((Int.toNat 0 : Nat) : Int)) (by omega) (by omega)
  have m2 := mul6 (x := geti (E.getD (i : Int).toNat []) ((Int.toNat 0 : Nat) : Int)) (y := geti (V.getD (i : Int).toNat []) ((Int.toNat 1 : Nat) : Int)) (by omega) (by omega)
  refine ⟨m1, m2, ?_, ?_⟩
  · unfold thA; omega
  · unfold thB; omega
theorem thr_in {V E : List (List Int)} (hV : V60 V) (hE : EdOk E) (hp : 0 < V.length) : ∀ i : Nat, i ≤ V.length → i ≤ E.length → (0 ≤ (thr V E i).1 ∧ (thr V E i).1 ≤ 7200) ∧ (1 ≤ (thr V E i).2 ∧ (thr V E i).2 ≤ 120)
  | 0, _, _ => by
    obtain ⟨a1, a2, a3⟩ := hV 0 hp
    obtain ⟨b1, b2, b3⟩ := hV (V.length - 1) (by omega)
    rw [show (((V.length - 1 : Nat) : Nat) : Int) = (V.length : Int) - 1 by omega] at b1 b2 b3
    have a2' : 0 ≤ geti (V.getD (Int.toNat 0) []) ((Int.toNat 0 : Nat) : Int) ∧ geti (V.getD (Int.toNat 0) []) ((Int.toNat 0 : Nat) : Int) ≤ 60 := a2
    simp only [thr, th0]
    omega
  | i + 1, h1, h2 => by
    have ih := thr_in hV hE hp i (by omega) (by omega)
    have := th_in hV hE i (by omega) (by omega)
    simp only [thr]
    split
    · exact this.2.2
    · exact ih
theorem mulT {a b : Int} (ha : 0 ≤ a ∧ a ≤ 7200) (hb : 1 ≤ b ∧ b ≤ 120) : 0 ≤ a * b ∧ a * b ≤ 864000 := by
  refine ⟨Int.mul_nonneg ha.1 (by omega), ?_⟩
  have := Int.mul_le_mul ha.2 hb.2 (by omega) (by omega : (0 : Int) ≤ 7200)
  omega

noncomputable def thF (xss : List (List Int)) : Int × Int := thr (verts xss) (edL (verts xss) ((verts xss).length - 1)) ((verts xss).length - 1)
noncomputable def thE (xss : List (List Int)) : Int := if isSup xss = true then (if (thF xss).1 = 0 then 5 else 0) else 1
noncomputable def thX (xss : List (List Int)) : Int := if thE xss = 0 then (thF xss).2 / (Int.gcd (thF xss).1 (thF xss).2 : Int) else 0
noncomputable def thY (xss : List (List Int)) : Int := if thE xss = 0 then (thF xss).1 / (Int.gcd (thF xss).1 (thF xss).2 : Int) else 0

theorem reduced_c (a b : Int) (ha : 0 < a ∧ a ≤ 7200) (hb : 0 < b ∧ b ≤ 7200) : AFn Try.prog 63 [.i a, .i b] (fun r os => r = .agg [.i (a / (Int.gcd a b : Int)), .i (b / (Int.gcd a b : Int))] ∧ os = []) := by
  have cg := divisor_c a b (by unfold mid; omega) (by unfold mid; omega)
  have g0 := Int.gcd_pos_of_ne_zero_left b (show a ≠ 0 by omega)
  obtain ⟨g, eg⟩ : ∃ g : Int, g = (Int.gcd a b : Int) := ⟨_, rfl⟩
  rw [← eg] at cg
  simp only [← eg]
  have g1 : 0 < g := by omega
  have q1 : 0 ≤ a / g ∧ a / g ≤ 7200 := ⟨Int.ediv_nonneg (by omega) (by omega), Int.le_trans (Int.ediv_le_self _ (by omega)) (by omega)⟩
  have q2 : 0 ≤ b / g ∧ b / g ≤ 7200 := ⟨Int.ediv_nonneg (by omega) (by omega), Int.le_trans (Int.ediv_le_self _ (by omega)) (by omega)⟩
  (refine AFn.start Try.func63 Try.ntmps63 rfl (by kernel_rfl) fun hk => ?_; simp only [Env.start, enumF, List.length_cons, List.length_nil, Nat.reduceAdd, Nat.reduceSub, List.cons_append, List.nil_append])
  repeat' (first | (apply AOps.nil; try simp only [List.nil_append, List.cons_append, List.set_cons_zero, List.set_cons_succ, List.length_cons, List.length_nil, Nat.reduceAdd, AV.sh, AV.sh1, AV.sh0, AO.sh, List.map_cons, List.map_nil, Nat.zero_add, Nat.add_zero, setAll]) | (apply w_move; exact rfl; exact rfl) | (apply w_assign; exact rfl; exact rfl) | apply AWp.seq | apply AWp.region | ((apply AWp.condP; exact rfl) <;> intro h) | apply AWp.skip | (apply w_call (cg); exact rfl; exact rfl; focus ((repeat (first | exact im_nil | refine im_cons rfl (.val _) ?_)); done)) | omega | ((apply w_lss); iterate 3 exact rfl) | (apply w_alst; iterate 2 exact rfl))
  refine AWp.regionG [] (by kernel_rfl) (envC := ⟨22, [(4, .optr 0 0)]⟩) (osC := [.bx 64 [.i (a / g), .i (b / g)]]) rfl rfl ?_ ?_
  · repeat' (first | (apply AOps.nil; try simp only [List.nil_append, List.cons_append, List.set_cons_zero, List.set_cons_succ, List.length_cons, List.length_nil, Nat.reduceAdd, AV.sh, AV.sh1, AV.sh0, AO.sh, List.map_cons, List.map_nil, Nat.zero_add, Nat.add_zero, setAll]) | (apply w_move; exact rfl; exact rfl) | apply AllOfG.nil | (apply AllOfG.consS; exact rfl; exact rfl) | (apply AAnyG.takeW; exact rfl; exact rfl; kernel_rfl; kernel_rfl) | (apply AAnyG.all; exact rfl) | (apply AAnyG.done; exact rfl) | (apply w_quo; exact rfl; exact rfl; exact rfl; (focus (omega; done)); (focus (omega; done))) | (apply w_build2; exact rfl; exact rfl; exact rfl; (exact one_val rfl rfl); (exact one_val rfl rfl)) | (apply w_stst; iterate 5 exact rfl) | (apply inI_of <;> omega))
    all_goals (apply Or.inl; refine ⟨lee rfl ?_, ?_, rfl, rfl⟩; (focus ((repeat (first | exact le_nil | refine le_eq rfl rfl ?_)); done)); (focus ((repeat (first | exact lo_nil | refine lo_eq rfl ?_)); done)))
  repeat' (apply AWp.ret)
  exact ⟨_, _, _, .c1 (k := 0) Try.results63 rfl rfl rfl, .agg2 (.val _), rfl, rfl⟩

set_option maxHeartbeats 4000000 in
theorem specThresholdOf_c (xss : List (List Int)) : AFnV Try.prog 35 [.intss xss] (.tuple #[.int .i64 (thX xss), .int .i64 (thY xss), .int .i64 (thE xss)]) := by
  (refine AFnV.start Try.func35 Try.ntmps35 rfl (by kernel_rfl) fun hk => ?_; simp only [Env.start, enumF, List.length_cons, List.length_nil, Nat.reduceAdd, Nat.reduceSub, List.cons_append, List.nil_append])
  have c1 := l15Is_c xss
  cases h1 : isSup xss with
  | false =>
    have e1 : thE xss = 1 := by simp [thE, h1]
    have e2 : thX xss = 0 := by simp [thX, e1]
    have e3 : thY xss = 0 := by simp [thY, e1]
    rw [h1] at c1
    rw [e1, e2, e3]
    repeat' (first | (apply AOps.nil; try simp only [List.nil_append, List.cons_append, List.set_cons_zero, List.set_cons_succ, List.length_cons, List.length_nil, Nat.reduceAdd, AV.sh, AV.sh1, AV.sh0, AO.sh, List.map_cons, List.map_nil, Nat.zero_add, Nat.add_zero, setAll]) | (apply w_move; exact rfl; exact rfl) | (apply w_assign; exact rfl; exact rfl) | apply AWp.seq | apply AWp.region | (apply AWp.condT; exact rfl) | apply AWp.ret | (apply w_call (c1); exact rfl; exact rfl; focus ((repeat (first | exact im_nil | refine im_cons rfl (.intss _) ?_)); done)) | ((apply w_not); iterate 2 exact rfl))
    all_goals exact .vv3 Try.results35 rfl rfl rfl
  | true =>
    rw [h1] at c1
    have hv := sup_ok h1
    have hvl := verts_le h1
    have hE := edL_ok hv
    have eL := edL_len (verts xss) ((verts xss).length - 1)
    have cV := verS h1
    have cE := l15Edges_c (by decide) (verts xss) hv
    have eT : thE xss = if (thF xss).1 = 0 then 5 else 0 := by rw [thE, if_pos h1]
    have hV := v60 hv
    have hp := hv.pos
    unfold thX thY
    rw [eT]
    unfold thF
    obtain ⟨V, eV⟩ : ∃ V, V = verts xss := ⟨_, rfl⟩
    rw [← eV] at hvl hE eL cV cE hV hp
    rw [← eV]
    clear eV eT hv
    obtain ⟨E, eE⟩ : ∃ E, E = edL V (V.length - 1) := ⟨_, rfl⟩
    rw [← eE] at hE eL cE
    rw [← eE]
    clear eE
    obtain ⟨a1, a2, a3⟩ := hV 0 hp
    have a1' : (V.getD (Int.toNat 0) []).length = 2 := a1
    obtain ⟨b1, b2, b3⟩ := hV (V.length - 1) (by omega)
    rw [show (((V.length - 1 : Nat) : Nat) : Int) = (V.length : Int) - 1 by omega] at b1 b2 b3
    repeat' (first | (apply AOps.nil; try simp only [List.nil_append, List.cons_append, List.set_cons_zero, List.set_cons_succ, List.length_cons, List.length_nil, Nat.reduceAdd, AV.sh, AV.sh1, AV.sh0, AO.sh, List.map_cons, List.map_nil, Nat.zero_add, Nat.add_zero, setAll]) | (apply w_move; exact rfl; exact rfl) | (apply w_assign; exact rfl; exact rfl) | apply AWp.seq | apply AWp.region | ((apply AWp.condP; exact rfl) <;> intro h) | (apply AWp.condF; exact rfl) | apply AWp.block | apply AWp.skip | (apply w_len; exact rfl; exact rfl; first | exact .ints _ | exact .intss _ | exact .sli rfl | exact .sls rfl | exact .slr rfl | exact .orow rfl | exact .nil) | (apply w_call (c1); exact rfl; exact rfl; focus ((repeat (first | exact im_nil | refine im_cons rfl (.intss _) ?_)); done)) | (apply w_callm (cV); (focus ((repeat (first | exact im_nil | refine im_cons rfl (.intss _) ?_)); done)); rintro r os0 ⟨rfl, rfl⟩; try simp only [List.nil_append, List.cons_append, List.set_cons_zero, List.set_cons_succ, List.length_cons, List.length_nil, Nat.reduceAdd, AV.sh, AV.sh1, AV.sh0, AO.sh, List.map_cons, List.map_nil, Nat.zero_add, Nat.add_zero, setAll]) | (apply w_callm (cE); (focus ((repeat (first | exact im_nil | refine im_cons rfl (.sls rfl) ?_)); done)); rintro r os0 ⟨rfl, rfl⟩; try simp only [List.nil_append, List.cons_append, List.set_cons_zero, List.set_cons_succ, List.length_cons, List.length_nil, Nat.reduceAdd, AV.sh, AV.sh1, AV.sh0, AO.sh, List.map_cons, List.map_nil, Nat.zero_add, Nat.add_zero, setAll]) | omega | ((first | apply w_gtr | apply w_sub | apply w_idx | apply w_ld); iterate 3 exact rfl) | ((apply w_not); iterate 2 exact rfl) | (apply w_idxo; exact rfl; exact rfl; (exact .sls rfl); exact rfl) | ((first | apply w_idxr | apply w_ldr); iterate 4 exact rfl) | (apply w_ldls; iterate 4 exact rfl) | (apply w_ldrp; iterate 4 exact rfl) | (apply inI_of <;> omega))
    all_goals
      refine AWp.loop (ι := Nat) (fun i => ⟨104, [(5, .own 0), (6, .i (thr V E i).1), (7, .i (thr V E i).2), (9, .own 1), (10, .i i)]⟩) (fun i => [.sls 38 2 V, .sls 38 2 E]) (fun i => i ≤ E.length) (fun i => E.length - i) 0 (by omega) (by simp only [thr, th0]; exact ⟨lee rfl (by (repeat (first | exact le_nil | refine le_eq rfl rfl ?_ | refine le_eq rfl (congrArg AV.i (by omega)) ?_))), by (repeat (first | exact lo_nil | refine lo_eq rfl ?_)), rfl, rfl⟩) ?_
      rintro i i0
      have t1 := thr_in hV hE hp i (by omega) i0
      by_cases hi : i < E.length
      · obtain ⟨p1, p2, p3⟩ := hE i hi
        obtain ⟨q1, q2, q3⟩ := hV i (by omega)
        obtain ⟨s1, s2, s3, s4⟩ := th_in hV hE i (by omega) hi
        have m1 := mulT s3 t1.2
        have m2 := mulT t1.1 s4
        simp only [thA, thB] at m1 m2 s3 s4
        by_cases hc : (thr V E i).1 * thB E i < thA V E i * (thr V E i).2
        · have et : thr V E (i + 1) = (thA V E i, thB E i) := by simp only [thr]; rw [if_pos hc]
          have et1 : (thr V E (i + 1)).1 = thA V E i := by rw [et]
          have et2 : (thr V E (i + 1)).2 = thB E i := by rw [et]
          simp only [thA, thB] at hc et1 et2
          repeat' (first | (apply AOps.nil; try simp only [List.nil_append, List.cons_append, List.set_cons_zero, List.set_cons_succ, List.length_cons, List.length_nil, Nat.reduceAdd, AV.sh, AV.sh1, AV.sh0, AO.sh, List.map_cons, List.map_nil, Nat.zero_add, Nat.add_zero, setAll]) | (apply w_move; exact rfl; exact rfl) | (apply w_assign; exact rfl; exact rfl) | apply AWp.seq | apply AWp.region | ((apply AWp.condP; exact rfl) <;> intro h) | apply AWp.block | apply AWp.exit | apply AWp.skip | (apply AWp.regionQ; kernel_rfl; kernel_rfl) | (apply w_len; exact rfl; exact rfl; first | exact .ints _ | exact .intss _ | exact .sli rfl | exact .sls rfl | exact .slr rfl | exact .orow rfl | exact .nil) | omega | ((first | apply w_lss | apply w_gtr | apply w_add | apply w_mul | apply w_idx | apply w_ld); iterate 3 exact rfl) | (apply w_idxo; exact rfl; exact rfl; (exact .sls rfl); exact rfl) | ((first | apply w_idxr | apply w_ldr); iterate 4 exact rfl) | (apply w_ldls; iterate 4 exact rfl) | (apply w_ldrp; iterate 4 exact rfl) | (apply inI_of <;> omega))
          exact ⟨i + 1, hi, by omega, ⟨lee rfl (by (repeat (first | exact le_nil | refine le_eq rfl rfl ?_ | refine le_eq rfl (congrArg AV.i (by omega)) ?_))), by (repeat (first | exact lo_nil | refine lo_eq rfl ?_)), rfl, rfl⟩⟩
        · have et : thr V E (i + 1) = thr V E i := by simp only [thr]; rw [if_neg hc]
          have et1 : (thr V E (i + 1)).1 = (thr V E i).1 := by rw [et]
          have et2 : (thr V E (i + 1)).2 = (thr V E i).2 := by rw [et]
          simp only [thA, thB] at hc
          repeat' (first | (apply AOps.nil; try simp only [List.nil_append, List.cons_append, List.set_cons_zero, List.set_cons_succ, List.length_cons, List.length_nil, Nat.reduceAdd, AV.sh, AV.sh1, AV.sh0, AO.sh, List.map_cons, List.map_nil, Nat.zero_add, Nat.add_zero, setAll]) | (apply w_move; exact rfl; exact rfl) | (apply w_assign; exact rfl; exact rfl) | apply AWp.seq | apply AWp.region | ((apply AWp.condP; exact rfl) <;> intro h) | apply AWp.block | apply AWp.exit | apply AWp.skip | (apply AWp.regionQ; kernel_rfl; kernel_rfl) | (apply w_len; exact rfl; exact rfl; first | exact .ints _ | exact .intss _ | exact .sli rfl | exact .sls rfl | exact .slr rfl | exact .orow rfl | exact .nil) | omega | ((first | apply w_lss | apply w_gtr | apply w_add | apply w_mul | apply w_idx | apply w_ld); iterate 3 exact rfl) | (apply w_idxo; exact rfl; exact rfl; (exact .sls rfl); exact rfl) | ((first | apply w_idxr | apply w_ldr); iterate 4 exact rfl) | (apply w_ldls; iterate 4 exact rfl) | (apply w_ldrp; iterate 4 exact rfl) | (apply inI_of <;> omega))
          exact ⟨i + 1, hi, by omega, ⟨lee rfl (by (repeat (first | exact le_nil | refine le_eq rfl rfl ?_ | refine le_eq rfl (congrArg AV.i (by omega)) ?_))), by (repeat (first | exact lo_nil | refine lo_eq rfl ?_)), rfl, rfl⟩⟩
      · have e : i = V.length - 1 := by omega
        by_cases ht : (thr V E i).1 = 0
        · repeat' (first | (apply AOps.nil; try simp only [List.nil_append, List.cons_append, List.set_cons_zero, List.set_cons_succ, List.length_cons, List.length_nil, Nat.reduceAdd, AV.sh, AV.sh1, AV.sh0, AO.sh, List.map_cons, List.map_nil, Nat.zero_add, Nat.add_zero, setAll]) | (apply w_move; exact rfl; exact rfl) | (apply w_assign; exact rfl; exact rfl) | apply AWp.seq | apply AWp.region | ((apply AWp.condP; exact rfl) <;> intro h) | apply AWp.block | apply AWp.ret | apply AWp.exit | apply AWp.skip | (apply AWp.regionQ; kernel_rfl; kernel_rfl) | (apply w_len; exact rfl; exact rfl; first | exact .ints _ | exact .intss _ | exact .sli rfl | exact .sls rfl | exact .slr rfl | exact .orow rfl | exact .nil) | omega | ((first | apply w_lss | apply w_eql); iterate 3 exact rfl))
          rw [← e, if_pos ht]
          exact .vv3 Try.results35 rfl rfl rfl
        · have cg := l01Gcd_c (thr V E i).1 (thr V E i).2 (by unfold mid; omega) (by unfold mid; omega)
          have g0 := Int.gcd_pos_of_ne_zero_left (thr V E i).2 ht
          obtain ⟨g, eg⟩ : ∃ g : Int, g = (Int.gcd (thr V E i).1 (thr V E i).2 : Int) := ⟨_, rfl⟩
          rw [← eg] at cg
          have g1 : 0 < g := by omega
          repeat' (first | (apply AOps.nil; try simp only [List.nil_append, List.cons_append, List.set_cons_zero, List.set_cons_succ, List.length_cons, List.length_nil, Nat.reduceAdd, AV.sh, AV.sh1, AV.sh0, AO.sh, List.map_cons, List.map_nil, Nat.zero_add, Nat.add_zero, setAll]) | (apply w_move; exact rfl; exact rfl) | (apply w_assign; exact rfl; exact rfl) | apply AWp.seq | apply AWp.region | ((apply AWp.condP; exact rfl) <;> intro h) | apply AWp.block | apply AWp.ret | apply AWp.exit | apply AWp.skip | (apply AWp.regionQ; kernel_rfl; kernel_rfl) | (apply w_len; exact rfl; exact rfl; first | exact .ints _ | exact .intss _ | exact .sli rfl | exact .sls rfl | exact .slr rfl | exact .orow rfl | exact .nil) | (apply w_call (cg); exact rfl; exact rfl; focus ((repeat (first | exact im_nil | refine im_cons rfl (.val _) ?_)); done)) | omega | ((first | apply w_lss | apply w_eql); iterate 3 exact rfl) | (apply w_quo; exact rfl; exact rfl; exact rfl; (focus (omega; done)); (focus (omega; done))) | (apply inI_of <;> omega))
          rw [← e, if_neg ht, ← eg]
          exact .vv3 Try.results35 rfl rfl rfl

set_option maxHeartbeats 4000000 in
theorem implThresholdOf_c (xss : List (List Int)) : AFnV Try.prog 34 [.intss xss] (.tuple #[.int .i64 (thX xss), .int .i64 (thY xss), .int .i64 (thE xss)]) := by
  (refine AFnV.start Try.func34 Try.ntmps34 rfl (by kernel_rfl) fun hk => ?_; simp only [Env.start, enumF, List.length_cons, List.length_nil, Nat.reduceAdd, Nat.reduceSub, List.cons_append, List.nil_append])
  have c1 := implIsSupport_c xss
  cases h1 : isSup xss with
  | false =>
    have e1 : thE xss = 1 := by simp [thE, h1]
    have e2 : thX xss = 0 := by simp [thX, e1]
    have e3 : thY xss = 0 := by simp [thY, e1]
    rw [h1] at c1
    rw [e1, e2, e3]
    repeat' (first | (apply AOps.nil; try simp only [List.nil_append, List.cons_append, List.set_cons_zero, List.set_cons_succ, List.length_cons, List.length_nil, Nat.reduceAdd, AV.sh, AV.sh1, AV.sh0, AO.sh, List.map_cons, List.map_nil, Nat.zero_add, Nat.add_zero, setAll]) | (apply w_move; exact rfl; exact rfl) | (apply w_assign; exact rfl; exact rfl) | apply AWp.seq | apply AWp.region | (apply AWp.condT; exact rfl) | apply AWp.ret | (apply w_call (c1); exact rfl; exact rfl; focus ((repeat (first | exact im_nil | refine im_cons rfl (.intss _) ?_)); done)) | ((apply w_not); iterate 2 exact rfl))
    all_goals exact .vv3 Try.results34 rfl rfl rfl
  | true =>
    rw [h1] at c1
    have hv := sup_ok h1
    have hvl := verts_le h1
    have hE := edL_ok hv
    have eL := edL_len (verts xss) ((verts xss).length - 1)
    have cV := corS h1
    have cE := edgesBetween_c (by decide) (verts xss) hv
    have eT : thE xss = if (thF xss).1 = 0 then 5 else 0 := by rw [thE, if_pos h1]
    have hV := v60 hv
    have hp := hv.pos
    unfold thX thY
    rw [eT]
    unfold thF
    obtain ⟨V, eV⟩ : ∃ V, V = verts xss := ⟨_, rfl⟩
    rw [← eV] at hvl hE eL cV cE hV hp
    rw [← eV]
    clear eV eT hv
    obtain ⟨E, eE⟩ : ∃ E, E = edL V (V.length - 1) := ⟨_, rfl⟩
    rw [← eE] at hE eL cE
    rw [← eE]
    clear eE
    obtain ⟨a1, a2, a3⟩ := hV 0 hp
    have a1' : (V.getD (Int.toNat 0) []).length = 2 := a1
    obtain ⟨b1, b2, b3⟩ := hV (V.length - 1) (by omega)
    rw [show (((V.length - 1 : Nat) : Nat) : Int) = (V.length : Int) - 1 by omega] at b1 b2 b3
    repeat' (first | (apply AOps.nil; try simp only [List.nil_append, List.cons_append, List.set_cons_zero, List.set_cons_succ, List.length_cons, List.length_nil, Nat.reduceAdd, AV.sh, AV.sh1, AV.sh0, AO.sh, List.map_cons, List.map_nil, Nat.zero_add, Nat.add_zero, setAll]) | (apply w_move; exact rfl; exact rfl) | (apply w_assign; exact rfl; exact rfl) | apply AWp.seq | apply AWp.region | (apply AWp.condF; exact rfl) | apply AWp.block | apply AWp.skip | (apply AWp.regionQ; kernel_rfl; kernel_rfl) | (apply w_len; exact rfl; exact rfl; first | exact .ints _ | exact .intss _ | exact .sli rfl | exact .sls rfl | exact .slr rfl | exact .orow rfl | exact .nil) | (apply w_call (c1); exact rfl; exact rfl; focus ((repeat (first | exact im_nil | refine im_cons rfl (.intss _) ?_)); done)) | (apply w_callm (cV); (focus ((repeat (first | exact im_nil | refine im_cons rfl (.intss _) ?_)); done)); rintro r os0 ⟨rfl, rfl⟩; try simp only [List.nil_append, List.cons_append, List.set_cons_zero, List.set_cons_succ, List.length_cons, List.length_nil, Nat.reduceAdd, AV.sh, AV.sh1, AV.sh0, AO.sh, List.map_cons, List.map_nil, Nat.zero_add, Nat.add_zero, setAll]) | (apply w_callm (cE); (focus ((repeat (first | exact im_nil | refine im_cons rfl (.sls rfl) ?_)); done)); rintro r os0 ⟨rfl, rfl⟩; try simp only [List.nil_append, List.cons_append, List.set_cons_zero, List.set_cons_succ, List.length_cons, List.length_nil, Nat.reduceAdd, AV.sh, AV.sh1, AV.sh0, AO.sh, List.map_cons, List.map_nil, Nat.zero_add, Nat.add_zero, setAll]) | omega | ((first | apply w_sub | apply w_idx | apply w_ld | apply w_max); iterate 3 exact rfl) | ((apply w_not); iterate 2 exact rfl) | (apply w_idxo; exact rfl; exact rfl; (exact .sls rfl); exact rfl) | ((first | apply w_idxr | apply w_ldr); iterate 4 exact rfl) | (apply w_ldls; iterate 4 exact rfl) | (apply w_ldrp; iterate 4 exact rfl) | (apply inI_of <;> omega))
    refine AWp.loop (ι := Nat) (fun i => ⟨87, [(5, .own 0), (6, .i (thr V E i).1), (7, .i (thr V E i).2), (33, .own 1), (34, .i E.length), (35, .i i)]⟩) (fun i => [.sls 38 2 V, .sls 38 2 E]) (fun i => i ≤ E.length) (fun i => E.length - i) 0 (by omega) (by simp only [thr, th0]; exact ⟨lee rfl (by (repeat (first | exact le_nil | refine le_eq rfl rfl ?_))), by (repeat (first | exact lo_nil | refine lo_eq rfl ?_)), rfl, rfl⟩) ?_
    rintro i i0
    have t1 := thr_in hV hE hp i (by omega) i0
    by_cases hi : i < E.length
    · obtain ⟨p1, p2, p3⟩ := hE i hi
      obtain ⟨q1, q2, q3⟩ := hV i (by omega)
      obtain ⟨s1, s2, s3, s4⟩ := th_in hV hE i (by omega) hi
      have m1 := mulT s3 t1.2
      have m2 := mulT t1.1 s4
      simp only [thA, thB] at m1 m2 s3 s4
      by_cases hc : (thr V E i).1 * thB E i < thA V E i * (thr V E i).2
      · have et : thr V E (i + 1) = (thA V E i, thB E i) := by simp only [thr]; rw [if_pos hc]
        have et1 : (thr V E (i + 1)).1 = thA V E i := by rw [et]
        have et2 : (thr V E (i + 1)).2 = thB E i := by rw [et]
        simp only [thA, thB] at hc et1 et2
        repeat' (first | (apply AOps.nil; try simp only [List.nil_append, List.cons_append, List.set_cons_zero, List.set_cons_succ, List.length_cons, List.length_nil, Nat.reduceAdd, AV.sh, AV.sh1, AV.sh0, AO.sh, List.map_cons, List.map_nil, Nat.zero_add, Nat.add_zero, setAll]) | (apply w_move; exact rfl; exact rfl) | (apply w_assign; exact rfl; exact rfl) | apply AWp.seq | apply AWp.region | ((apply AWp.condP; exact rfl) <;> intro h) | apply AWp.block | apply AWp.exit | apply AWp.skip | (apply AWp.regionQ; kernel_rfl; kernel_rfl) | omega | ((first | apply w_lss | apply w_gtr | apply w_add | apply w_mul | apply w_idx | apply w_ld); iterate 3 exact rfl) | (apply w_idxo; exact rfl; exact rfl; (exact .sls rfl); exact rfl) | ((first | apply w_idxr | apply w_ldr); iterate 4 exact rfl) | (apply w_ldls; iterate 4 exact rfl) | (apply w_ldrp; iterate 4 exact rfl) | (apply inI_of <;> omega))
        exact ⟨i + 1, hi, by omega, ⟨lee rfl (by (repeat (first | exact le_nil | refine le_eq rfl rfl ?_ | refine le_eq rfl (congrArg AV.i (by omega)) ?_))), by (repeat (first | exact lo_nil | refine lo_eq rfl ?_)), rfl, rfl⟩⟩
      · have et : thr V E (i + 1) = thr V E i := by simp only [thr]; rw [if_neg hc]
        have et1 : (thr V E (i + 1)).1 = (thr V E i).1 := by rw [et]
        have et2 : (thr V E (i + 1)).2 = (thr V E i).2 := by rw [et]
        simp only [thA, thB] at hc
        repeat' (first | (apply AOps.nil; try simp only [List.nil_append, List.cons_append, List.set_cons_zero, List.set_cons_succ, List.length_cons, List.length_nil, Nat.reduceAdd, AV.sh, AV.sh1, AV.sh0, AO.sh, List.map_cons, List.map_nil, Nat.zero_add, Nat.add_zero, setAll]) | (apply w_move; exact rfl; exact rfl) | (apply w_assign; exact rfl; exact rfl) | apply AWp.seq | apply AWp.region | ((apply AWp.condP; exact rfl) <;> intro h) | apply AWp.block | apply AWp.exit | apply AWp.skip | (apply AWp.regionQ; kernel_rfl; kernel_rfl) | omega | ((first | apply w_lss | apply w_gtr | apply w_add | apply w_mul | apply w_idx | apply w_ld); iterate 3 exact rfl) | (apply w_idxo; exact rfl; exact rfl; (exact .sls rfl); exact rfl) | ((first | apply w_idxr | apply w_ldr); iterate 4 exact rfl) | (apply w_ldls; iterate 4 exact rfl) | (apply w_ldrp; iterate 4 exact rfl) | (apply inI_of <;> omega))
        exact ⟨i + 1, hi, by omega, ⟨lee rfl (by (repeat (first | exact le_nil | refine le_eq rfl rfl ?_ | refine le_eq rfl (congrArg AV.i (by omega)) ?_))), by (repeat (first | exact lo_nil | refine lo_eq rfl ?_)), rfl, rfl⟩⟩
    · have e : i = V.length - 1 := by omega
      by_cases ht : (thr V E i).1 = 0
      · repeat' (first | (apply AOps.nil; try simp only [List.nil_append, List.cons_append, List.set_cons_zero, List.set_cons_succ, List.length_cons, List.length_nil, Nat.reduceAdd, AV.sh, AV.sh1, AV.sh0, AO.sh, List.map_cons, List.map_nil, Nat.zero_add, Nat.add_zero, setAll]) | (apply w_move; exact rfl; exact rfl) | (apply w_assign; exact rfl; exact rfl) | apply AWp.seq | apply AWp.region | ((apply AWp.condP; exact rfl) <;> intro h) | apply AWp.block | apply AWp.ret | apply AWp.exit | apply AWp.skip | omega | ((first | apply w_lss | apply w_eql); iterate 3 exact rfl))
        rw [← e, if_pos ht]
        exact .vv3 Try.results34 rfl rfl rfl
      · have cr := reduced_c (thr V E i).2 (thr V E i).1 (by omega) (by omega)
        rw [Int.gcd_comm] at cr
        repeat' (first | (apply AOps.nil; try simp only [List.nil_append, List.cons_append, List.set_cons_zero, List.set_cons_succ, List.length_cons, List.length_nil, Nat.reduceAdd, AV.sh, AV.sh1, AV.sh0, AO.sh, List.map_cons, List.map_nil, Nat.zero_add, Nat.add_zero, setAll]) | (apply w_move; exact rfl; exact rfl) | (apply w_assign; exact rfl; exact rfl) | apply AWp.seq | apply AWp.region | ((apply AWp.condP; exact rfl) <;> intro h) | apply AWp.block | apply AWp.ret | apply AWp.exit | apply AWp.skip | (apply AWp.regionQ; kernel_rfl; kernel_rfl) | (apply w_callm (cr); (focus ((repeat (first | exact im_nil | refine im_cons rfl (.val _) ?_)); done)); rintro r os0 ⟨rfl, rfl⟩; try simp only [List.nil_append, List.cons_append, List.set_cons_zero, List.set_cons_succ, List.length_cons, List.length_nil, Nat.reduceAdd, AV.sh, AV.sh1, AV.sh0, AO.sh, List.map_cons, List.map_nil, Nat.zero_add, Nat.add_zero, setAll]) | omega | ((first | apply w_lss | apply w_eql | apply w_ld | apply w_fa); iterate 3 exact rfl) | (apply w_ldb; iterate 5 exact rfl) | (apply w_alst; iterate 2 exact rfl) | (apply w_stst; iterate 5 exact rfl))
        rw [← e, if_neg ht]
        exact .vv3 Try.results34 rfl rfl rfl
end Go.Proofs.Ythlfdhooiekgjaa
/-
  Hulls of hulls, least values on hulls, sums of edges and of their branches, hulls put together from their edges: the plain law. No condition.
-/
namespace Go.Proofs.Ythlfdhooiekgjaa
open Go Go.RowKit

theorem gwf_mono {S S' : List Int → Prop} (hs : ∀ q, S' q → S q) : ∀ {r : List (List Int)} {a : List Int}, Hl.GWf gX gY S (a :: r) → (∀ v ∈ r, S' v) → Hl.GWf gX gY S' (a :: r)
  | [], _, h, _ => fun q hq => h q (hs q hq)
  | b :: r, _, h, hv => ⟨⟨hv b (by simp), h.1.2.1, fun q hq => h.1.2.2 q (hs q hq)⟩, gwf_mono hs h.2 fun v h2 => hv v (by simp [h2])⟩
theorem gwf_in {S : List Int → Prop} : ∀ {r : List (List Int)} {a : List Int}, Hl.GWf gX gY S (a :: r) → ∀ v ∈ r, S v
  | [], _, _ => fun v hv => by cases hv
  | b :: r, _, h => fun v hv => by
    rcases List.mem_cons.1 hv with rfl | h2
    · exact h.1.1
    · exact gwf_in h.2 v h2
theorem hasV_in {xss V : List (List Int)} (h : HasV xss V) : ∀ v ∈ V, v ∈ xss := by
  obtain ⟨m, r, rfl, h1, h2, h3⟩ := h
  intro v hv
  rcases List.mem_cons.1 hv with rfl | h4
  · exact h1
  · exact gwf_in h3 v h4
theorem hasV_self {xss V : List (List Int)} (h : HasV xss V) : HasV V V := by
  have hin := hasV_in h
  obtain ⟨m, r, rfl, h1, h2, h3⟩ := h
  exact ⟨m, r, rfl, by simp, fun q hq => h2 q (hin q hq), gwf_mono hin h3 fun v hv => by simp [hv]⟩
theorem verts_in {xss : List (List Int)} (h : isSup xss = true) : ∀ v ∈ verts xss, v ∈ xss := hasV_in (hasS h)
/-- The vertices of vertices. -/
theorem verts_verts {xss : List (List Int)} (h : isSup xss = true) : verts (verts xss) = verts xss :=
  verts_eq (fun r hr => ((sup_ok h).row r hr).1) (hasV_self (hasS h))
theorem isSup_rows {xss : List (List Int)} (h0 : 1 ≤ xss.length ∧ xss.length ≤ 200) (hr : ∀ r ∈ xss, r.length = 2 ∧ (0 ≤ geti r 0 ∧ geti r 0 ≤ 60) ∧ (0 ≤ geti r 1 ∧ geti r 1 ≤ 60)) : isSup xss = true :=
  decide_eq_true (p := IsSup xss) ⟨h0, fun j hj => hr _ (gets_mem (by omega) (by omega))⟩
theorem verts_sup {xss : List (List Int)} (h : isSup xss = true) : isSup (verts xss) = true := by
  have hv := sup_ok h
  have h1 := hv.pos
  have h2 := hv.len
  exact isSup_rows ⟨h1, by omega⟩ fun r hr => hv.row r hr

/-! ### Least values -/
def fS (p q : Int) (r : List Int) : Int := p * geti r 0 + q * geti r 1
theorem seg_min {p q w h u t : Int} (hh : 0 < h) (ht : 0 < t ∧ t ≤ h) (hc : 0 ≤ h * u - w * t) (hp : 0 ≤ p) : 0 ≤ p * u - q * t ∨ p * w - q * h ≤ p * u - q * t := by
  rcases Int.le_total (q * h) (p * w) with k | k
  · refine .inl (Int.not_lt.1 fun hn => ?_)
    have e1 : 0 ≤ t * (p * w - q * h) := Int.mul_nonneg (by omega) (by omega)
    have e2 : 0 ≤ p * (h * u - w * t) := Int.mul_nonneg hp hc
    have e3 : h * (p * u - q * t) = p * (h * u - w * t) + t * (p * w - q * h) := by grind
    have e4 : h * (p * u - q * t) < 0 := Int.mul_neg_of_pos_of_neg hh hn
    omega
  · refine .inr (Int.not_lt.1 fun hn => ?_)
    have e1 : 0 ≤ (h - t) * (q * h - p * w) := Int.mul_nonneg (by omega) (by omega)
    have e2 : 0 ≤ p * (h * u - w * t) := Int.mul_nonneg hp hc
    have e3 : h * ((p * u - q * t) - (p * w - q * h)) = p * (h * u - w * t) + (h - t) * (q * h - p * w) := by grind
    have e4 : h * ((p * u - q * t) - (p * w - q * h)) < 0 := Int.mul_neg_of_pos_of_neg hh (by omega)
    omega
theorem gwf_min {S : List Int → Prop} {p q : Int} (hp : 0 ≤ p) (x : List Int) (hx : S x) : ∀ {r : List (List Int)} {a : List Int}, Hl.GWf gX gY S (a :: r) → geti x 1 < geti a 1 → ∃ v ∈ a :: r, fS p q v ≤ fS p q x
  | [], a, h, hy => by
    have : geti a 1 ≤ geti x 1 := h x hx
    omega
  | b :: r, a, h, hy => by
    by_cases hb : geti x 1 < geti b 1
    · obtain ⟨v, h1, h2⟩ := gwf_min hp x hx h.2 hb
      exact ⟨v, by simp only [List.mem_cons] at h1 ⊢; exact .inr h1, h2⟩
    · have hn : geti b 1 < geti a 1 := h.1.2.1
      have hc : 0 ≤ Hl.cr gX gY a b x := (h.1.2.2 x hx hy).1
      have hc2 : 0 ≤ (geti b 0 - geti a 0) * (geti x 1 - geti a 1) - (geti b 1 - geti a 1) * (geti x 0 - geti a 0) := hc
      rcases seg_min (p := p) (q := q) (w := geti b 0 - geti a 0) (h := geti a 1 - geti b 1) (u := geti x 0 - geti a 0) (t := geti a 1 - geti x 1) (by omega) ⟨by omega, by omega⟩ (by grind) hp with k | k
      · exact ⟨a, by simp, by unfold fS; grind⟩
      · exact ⟨b, by simp, by unfold fS; grind⟩
theorem hasV_min {xss V : List (List Int)} (h : HasV xss V) {p q : Int} (hp : 0 ≤ p) (hq : 0 ≤ q) {x : List Int} (hx : x ∈ xss) : ∃ v ∈ V, fS p q v ≤ fS p q x := by
  obtain ⟨m, r, rfl, h1, h2, h3⟩ := h
  by_cases hy : geti x 1 < geti m 1
  · exact gwf_min hp x hx h3 hy
  · have h4 : geti m 0 ≤ geti x 0 := by
      have : gX m < gX x ∨ (gX m = gX x ∧ gY m ≤ gY x) := h2 x hx
      unfold gX at this
      omega
    refine ⟨m, by simp, ?_⟩
    have e1 : p * geti m 0 ≤ p * geti x 0 := Int.mul_le_mul_of_nonneg_left h4 hp
    have e2 : q * geti m 1 ≤ q * geti x 1 := Int.mul_le_mul_of_nonneg_left (by omega) hq
    unfold fS; omega
theorem svmin_le (xss : List (List Int)) (p q : Int) : ∀ (k : Nat) (i : Nat), i < k → svmin xss p q k ≤ fS p q (gets xss (i : Nat))
  | 0, i, h => by omega
  | k + 1, i, h => by
    rw [svmin]
    rcases Nat.lt_or_ge i k with h1 | h1
    · have := svmin_le xss p q k i h1
      omega
    · obtain rfl : i = k := by omega
      unfold fS; omega
theorem svmin_ex (xss : List (List Int)) (p q : Int) (h0 : 0 < xss.length) : ∀ k : Nat, k ≤ xss.length → ∃ i : Nat, i < xss.length ∧ svmin xss p q k = fS p q (gets xss (i : Nat))
  | 0, _ => ⟨0, h0, rfl⟩
  | k + 1, h => by
    obtain ⟨i, h1, h2⟩ := svmin_ex xss p q h0 k (by omega)
    rw [svmin]
    rcases Int.le_total (svmin xss p q k) (p * geti (gets xss (k : Nat)) 0 + q * geti (gets xss (k : Nat)) 1) with h3 | h3
    · exact ⟨i, h1, by rw [Int.min_eq_left h3, h2]⟩
    · exact ⟨k, by omega, by rw [Int.min_eq_right h3]; rfl⟩
theorem gets_ex {xss : List (List Int)} {x : List Int} (h : x ∈ xss) : ∃ i : Nat, i < xss.length ∧ gets xss (i : Nat) = x := by
  obtain ⟨i, hi⟩ := List.getElem?_of_mem h
  have h2 := (List.getElem?_eq_some_iff.1 hi).1
  exact ⟨i, h2, by simp [gets, List.getD_eq_getElem?_getD, hi]⟩
/-- Two lists with the same hull have the same least values. -/
theorem svmin_of {xss yss : List (List Int)} {p q : Int} (hx : 0 < xss.length) (hy : 0 < yss.length) (h1 : ∀ x ∈ xss, ∃ y ∈ yss, fS p q y ≤ fS p q x) (h2 : ∀ y ∈ yss, ∃ x ∈ xss, fS p q x ≤ fS p q y) :
    svmin xss p q xss.length = svmin yss p q yss.length := by
  obtain ⟨i, i1, i2⟩ := svmin_ex xss p q hx xss.length (Nat.le_refl _)
  obtain ⟨j, j1, j2⟩ := svmin_ex yss p q hy yss.length (Nat.le_refl _)
  obtain ⟨y, y1, y2⟩ := h1 (gets xss (i : Nat)) (gets_mem (by omega) (by omega))
  obtain ⟨x, x1, x2⟩ := h2 (gets yss (j : Nat)) (gets_mem (by omega) (by omega))
  obtain ⟨k, k1, rfl⟩ := gets_ex y1
  obtain ⟨l, l1, rfl⟩ := gets_ex x1
  have a1 := svmin_le yss p q _ k k1
  have a2 := svmin_le xss p q _ l l1
  omega
theorem svA_verts {xss : List (List Int)} (h : isSup xss = true) {p q : Int} (hp : 0 ≤ p ∧ p ≤ 1000) (hq : 0 ≤ q ∧ q ≤ 1000) : svA (verts xss) p q = svA xss p q := by
  unfold svA
  rw [if_pos ⟨verts_sup h, hp, hq⟩, if_pos ⟨h, hp, hq⟩]
  exact svmin_of (sup_ok h).pos (sup_rows h).1.1 (fun v hv => ⟨v, verts_in h v hv, Int.le_refl _⟩) fun x hx => hasV_min (hasS h) hp.1 hq.1 hx
theorem svE_ok {xss : List (List Int)} (h : isSup xss = true) {p q : Int} (hp : 0 ≤ p ∧ p ≤ 1000) (hq : 0 ≤ q ∧ q ≤ 1000) : svE xss p q = 0 := by
  unfold svE; rw [if_pos h, if_pos ⟨hp, hq⟩]

/-! ### Sums of edges -/
theorem ed_sum {V : List (List Int)} {B : Int} (h : VOk B V) : geti (V.getD 0 []) 0 + sS E0 (edL V (V.length - 1)) = geti (V.getD (V.length - 1) []) 0 ∧ geti (V.getD 0 []) 1 - sS E1 (edL V (V.length - 1)) = geti (V.getD (V.length - 1) []) 1 := by
  have e := vf_ed (fun v hv => (h.row v hv).1) h.pos
  have := vfP_getD (p := V.getD 0 []) (L := edL V (V.length - 1)) (V.length - 1) (by rw [edL_len]; omega)
  rw [e, List.take_of_length_le (by rw [edL_len]; omega)] at this
  omega
theorem sS_rep (F : List Int → Int) (e : List Int) : ∀ n : Nat, sS F (List.replicate n e) = n * F e
  | 0 => by simp [sS]
  | n + 1 => by rw [List.replicate_succ, sS, sS_rep F e n, Int.natCast_add, Int.add_mul]; omega
theorem eb_sum {E : List (List Int)} (h : EdOk E) : ∀ n, n ≤ E.length → sS E0 (ebL E n) = sS E0 (E.take n) ∧ sS E1 (ebL E n) = sS E1 (E.take n)
  | 0, _ => by simp [ebL, sS]
  | n + 1, hn => by
    obtain ⟨i1, i2⟩ := eb_sum h n (by omega)
    have hg := egD_in h n (by omega)
    have d1 : egD E n ∣ geti (E.getD n []) 0 := Int.gcd_dvd_left (geti (E.getD n []) 0) (geti (E.getD n []) 1)
    have d2 : egD E n ∣ geti (E.getD n []) 1 := Int.gcd_dvd_right (geti (E.getD n []) 0) (geti (E.getD n []) 1)
    have r0 : E0 (ebR E n) = geti (E.getD n []) 0 / egD E n := rfl
    have r1 : E1 (ebR E n) = geti (E.getD n []) 1 / egD E n := rfl
    have t0 : E.take (n + 1) = E.take n ++ [E.getD n []] := by
      rw [List.take_succ_eq_append_getElem (by omega), List.getD_eq_getElem?_getD, List.getElem?_eq_getElem (by omega)]; rfl
    have hN : ((egD E n).toNat : Int) = egD E n := by omega
    rw [ebL, sS_append, sS_append, sS_rep, sS_rep, t0, sS_append, sS_append, i1, i2, r0, r1, hN, Int.mul_ediv_cancel' d1, Int.mul_ediv_cancel' d2]
    constructor <;> simp [sS, E0, E1]

/-! ### Edges put together again -/
theorem insE_end (e : List Int) : ∀ {S : List (List Int)}, (∀ s ∈ S, 0 ≤ wS s e) → insE e S = S ++ [e]
  | [], _ => rfl
  | s :: S, h => by rw [insE, if_pos (h s (by simp)), insE_end e fun z hz => h z (by simp [hz])]; rfl
theorem srtE_sorted {E : List (List Int)} (h : StS E) : ∀ n, n ≤ E.length → srtE E n = E.take n
  | 0, _ => by simp [srtE]
  | n + 1, hn => by
    have t0 : E.take (n + 1) = E.take n ++ [E.getD n []] := by
      rw [List.take_succ_eq_append_getElem (by omega), List.getD_eq_getElem?_getD, List.getElem?_eq_getElem (by omega)]; rfl
    have h2 : StS (E.take (n + 1)) := List.Pairwise.sublist (List.take_sublist _ _) h
    rw [t0] at h2
    rw [srtE, srtE_sorted h n (by omega), t0]
    exact insE_end _ fun s hs => (List.pairwise_append.1 h2).2.2 s hs _ (by simp)
/-- A convenient polygon is that of its edges. -/
theorem se_edges {xss : List (List Int)} (h : isSup xss = true) (hc : conv (verts xss) = true) (h1 : 1 < (verts xss).length) :
    seE (edL (verts xss) ((verts xss).length - 1)) = 0 ∧ seL (edL (verts xss) ((verts xss).length - 1)) = verts xss := by
  have hv := sup_ok h
  have hs := ed_sum hv
  have hst := ed_stS (hasS h) hv
  have hrow : ∀ e ∈ edL (verts xss) ((verts xss).length - 1), E60 e := fun e he => ed_row hv he
  have hvv := verts_verts h
  have hvf := vf_ed (fun v hv' => (hv.row v hv').1) hv.pos
  obtain ⟨c1, c2⟩ := of_decide_eq_true hc
  generalize hV : verts xss = V at *
  have hl := hv.len
  have r0 := hv.at 0 hv.pos
  have rl := hv.at (V.length - 1) (by have := hv.pos; omega)
  rw [show ((V.length : Int) - 1) = ((V.length - 1 : Nat) : Int) by omega] at c2
  rw [show (0 : Int) = ((0 : Nat) : Int) from rfl] at c1
  rw [gets_D] at c1 c2 rl r0
  have c1' : geti (V.getD 0 []) 0 = 0 := c1
  have hE : EdgOk (edL V (V.length - 1)) := ⟨by rw [edL_len]; omega, hrow⟩
  obtain ⟨e1, e2⟩ := seE_ok hE (by omega)
  refine ⟨e1, ?_⟩
  rw [e2, srtE_sorted hst _ (Nat.le_refl _), List.take_length]
  have ep : [0, sS E1 (edL V (V.length - 1))] = V.getD 0 [] := by
    refine row2_ext rfl r0.1 ?_ ?_
    · show (0 : Int) = _; omega
    · show sS E1 _ = _; omega
  rw [ep, hvf, hvv]
end Go.Proofs.Ythlfdhooiekgjaa
/-
  Areas and values of sums of supports, and the half planes of a threshold: the plain law. No condition.
-/
namespace Go.Proofs.Ythlfdhooiekgjaa
open Go Go.RowKit

/-! ### Areas, up to even numbers -/
def wh (e : List Int) : Int := geti e 0 * geti e 1
theorem ji_par : ∀ (n : Nat) (Y : List (List Int)), Y.length = n → StS Y → (∀ y ∈ Y, EP y) → ∃ L, JI Y L ∧ ∃ m, sS wh L = sS wh Y + 2 * m
  | 0, Y, h, _, _ => by rw [List.eq_nil_of_length_eq_zero h]; exact ⟨[], JI.nil, 0, rfl⟩
  | n + 1, Y, h, hs, hp => by
    rcases List.eq_nil_or_concat Y with rfl | ⟨Y, e, rfl⟩
    · simp at h
    · rw [List.concat_eq_append] at *
      obtain ⟨h1, h2, h3⟩ := List.pairwise_append.1 hs
      have hY : ∀ y ∈ Y, EP y := fun y hy => hp y (by simp [hy])
      have he : EP e := hp e (by simp)
      have hye : ∀ y ∈ Y, 0 ≤ wS y e := fun y hy => h3 y hy e (by simp)
      obtain ⟨L, hL, m, hm⟩ := ji_par n Y (by simpa using h) h1 hY
      by_cases hz : ∀ A l, L = A ++ [l] → wS l e ≠ 0
      · exact ⟨_, hL.push hY he hye hz, m, by rw [sS_append, sS_append, hm]; omega⟩
      · obtain ⟨A, l, e1, e2⟩ : ∃ A l, L = A ++ [l] ∧ wS l e = 0 := by
          apply Classical.byContradiction
          intro hn
          exact hz fun A l h1 h2 => hn ⟨A, l, h1, h2⟩
        subst e1
        refine ⟨_, hL.same (fun hn => ?_) he hye e2, m + geti l 0 * geti e 1, ?_⟩
        · have := hL.none hn
          simp at this
        · have e3 : wh (plE l e) = wh l + wh e + 2 * (geti l 0 * geti e 1) := by
            have : wh (plE l e) = (geti l 0 + geti e 0) * (geti l 1 + geti e 1) := rfl
            rw [this]
            unfold wS at e2
            unfold wh
            grind
          rw [sS_append] at hm ⊢
          rw [sS_append]
          simp only [sS] at hm ⊢
          rw [e3]
          omega
theorem join_par {X : List (List Int)} (h : ∀ x ∈ X, EP x) : ∃ L, JoinOf X L ∧ ∃ m, sS wh L = sS wh X + 2 * m := by
  obtain ⟨L, hL, m, hm⟩ := ji_par _ (srtE X X.length) rfl (srtE_stS (fun x hx => (h x hx).2.2.1) _ (Nat.le_refl _)) (fun y hy => h y (srtE_mem (Nat.le_refl _) hy))
  exact ⟨L, hL.join.perm (srtE_all X), m, by rw [hm, sS_perm wh (srtE_all X)]⟩
theorem arS_vf (p : List Int) (L : List (List Int)) : ∀ k, k ≤ L.length → ∃ m, arS (vfP p L) k = sS wh (L.take k) + 2 * m
  | 0, _ => ⟨0, by simp [arS, sS]⟩
  | k + 1, h => by
    obtain ⟨m, hm⟩ := arS_vf p L k (by omega)
    have t0 : L.take (k + 1) = L.take k ++ [L.getD k []] := by
      rw [List.take_succ_eq_append_getElem (by omega), List.getD_eq_getElem?_getD, List.getElem?_eq_getElem (by omega)]; rfl
    have e1 : gets (vfP p L) ((k : Nat) + 1 : Int) = (vfP p L).getD (k + 1) [] := by
      rw [show ((k : Nat) + 1 : Int) = ((k + 1 : Nat) : Int) by omega, gets_D]
    have e2 : gets (vfP p L) ((k : Nat) + 1 - 1 : Int) = (vfP p L).getD k [] := by
      rw [show ((k : Nat) + 1 - 1 : Int) = ((k : Nat) : Int) by omega, gets_D]
    have e3 := vfP_succ L p k (by omega)
    have x0 : geti ((vfP p L).getD (k + 1) []) 0 = geti ((vfP p L).getD k []) 0 + geti (L.getD k []) 0 := by rw [e3]; rfl
    have x1 : geti ((vfP p L).getD (k + 1) []) 1 = geti ((vfP p L).getD k []) 1 - geti (L.getD k []) 1 := by rw [e3]; rfl
    refine ⟨m + geti (L.getD k []) 0 * geti ((vfP p L).getD (k + 1) []) 1, ?_⟩
    rw [arS, hm, t0, sS_append, e1, e2, x0, x1]
    simp only [sS, wh]
    grind
theorem ar_conv {V : List (List Int)} (h0 : 0 < V.length) (h : conv V = true) : arI V (V.length - 1) = arS V (V.length - 1) := by
  obtain ⟨c1, c2⟩ := of_decide_eq_true h
  have := ar_rel V (V.length - 1)
  rw [show ((V.length : Int) - 1) = ((V.length - 1 : Nat) : Int) by omega] at c2
  rw [c1, c2, Int.mul_zero, Int.zero_mul] at this
  omega
theorem ar_par {V : List (List Int)} {B : Int} (h : VOk B V) (hc : conv V = true) : ∃ m, arI V (V.length - 1) = sS wh (edL V (V.length - 1)) + 2 * m := by
  have e := vf_ed (fun v hv => (h.row v hv).1) h.pos
  obtain ⟨m, hm⟩ := arS_vf (V.getD 0 []) (edL V (V.length - 1)) (V.length - 1) (by rw [edL_len]; omega)
  rw [e, List.take_of_length_le (by rw [edL_len]; omega)] at hm
  exact ⟨m, by rw [ar_conv h.pos hc, hm]⟩
/-- The area of a sum. -/
theorem area_sum {a b : List (List Int)} (ha : isSup a = true) (hb : isSup b = true) (ca : conv (verts a) = true) (cb : conv (verts b) = true) :
    arI (vsum a b) ((vsum a b).length - 1) = arI (verts a) ((verts a).length - 1) + arI (verts b) ((verts b).length - 1) + 2 * maA a b := by
  have oV := sup_ok ha
  have oW := sup_ok hb
  have oS := vsum_ok ha hb
  obtain ⟨L, hL, m, hm⟩ := join_par (X := edL (verts a) ((verts a).length - 1) ++ edL (verts b) ((verts b).length - 1)) fun e he => by
    rcases List.mem_append.1 he with he | he
    · have := ed_row oV he; unfold EP; omega
    · have := ed_row oW he; unfold EP; omega
  have hh := sum_hull (hasS ha) (hasS hb) oV oW hL
  have cs := join_ex a b ha hb ⟨L, hL⟩ ca cb
  obtain ⟨m1, h1⟩ := ar_par oV ca
  obtain ⟨m2, h2⟩ := ar_par oW cb
  obtain ⟨m3, h3⟩ : ∃ m, arI (vsum a b) ((vsum a b).length - 1) = sS wh L + 2 * m := by
    rw [ar_conv oS.pos cs]
    unfold vsum
    rw [hh, vfP_len]
    obtain ⟨m4, h4⟩ := arS_vf (addR ((verts a).getD 0 []) ((verts b).getD 0 [])) L L.length (Nat.le_refl _)
    rw [List.take_length] at h4
    exact ⟨m4, h4⟩
  rw [sS_append] at hm
  have e := (ma_ok ⟨ha, hb⟩ ⟨ca, cb⟩).2
  have e2 : arI (vsum a b) ((vsum a b).length - 1) - arI (verts a) ((verts a).length - 1) - arI (verts b) ((verts b).length - 1) = 2 * (m + m3 - m1 - m2) := by omega
  rw [e, e2, Int.mul_tdiv_cancel_left _ (by omega)]
  omega

/-! ### Values of sums -/
theorem hasV_of {xss : List (List Int)} (h0 : 0 < xss.length) (hp : ∀ r ∈ xss, 0 ≤ geti r 1) : HasV xss (verts xss) := by
  have hv := verts_ex h0 hp
  unfold verts
  rw [dif_pos hv]
  exact Exists.choose_spec hv
theorem vsum_has {a b : List (List Int)} (ha : isSup a = true) (hb : isSup b = true) : HasV (sumsI (verts a) (verts b) (verts a).length) (vsum a b) :=
  hasV_of (sum_pos (sup_ok ha) (sup_ok hb)).1 fun r hr => (sum_rows (sup_ok ha) (sup_ok hb) (Nat.le_refl _) r hr).2.2.1
theorem vsum_verts {a b : List (List Int)} (ha : isSup a = true) (hb : isSup b = true) : verts (vsum a b) = vsum a b :=
  verts_eq (fun r hr => ((vsum_ok ha hb).row r hr).1) (hasV_self (vsum_has ha hb))
theorem sos_sup {a b : List (List Int)} (ha : isSup a = true) (hb : isSup b = true) (h : ∀ r ∈ vsum a b, R60 r) : isSup (vsum a b) = true := by
  have o := vsum_ok ha hb
  have h1 := o.pos
  have h2 := o.len
  exact isSup_rows ⟨h1, by omega⟩ fun r hr => ⟨(o.row r hr).1, h r hr⟩
theorem fS_add (p q : Int) (v w : List Int) : fS p q (addR v w) = fS p q v + fS p q w := by
  have : fS p q (addR v w) = p * (geti v 0 + geti w 0) + q * (geti v 1 + geti w 1) := rfl
  rw [this]; unfold fS; grind
theorem sv_sum {a b : List (List Int)} (ha : isSup a = true) (hb : isSup b = true) (h : ∀ r ∈ vsum a b, R60 r) {p q : Int} (hp : 0 ≤ p ∧ p ≤ 1000) (hq : 0 ≤ q ∧ q ≤ 1000) :
    svA a p q + svA b p q = svA (vsum a b) p q := by
  rw [← svA_verts ha hp hq, ← svA_verts hb hp hq]
  have hs := sos_sup ha hb h
  unfold svA
  rw [if_pos ⟨verts_sup ha, hp, hq⟩, if_pos ⟨verts_sup hb, hp, hq⟩, if_pos ⟨hs, hp, hq⟩]
  have hh := vsum_has ha hb
  have pS := (sum_pos (sup_ok ha) (sup_ok hb)).1
  have pV := (vsum_ok ha hb).pos
  have e := svmin_of (p := p) (q := q) pV pS (fun v hv => ⟨v, hasV_in hh v hv, Int.le_refl _⟩) fun x hx => hasV_min hh hp.1 hq.1 hx
  rw [e]
  obtain ⟨i, i1, i2⟩ := svmin_ex (verts a) p q (sup_ok ha).pos _ (Nat.le_refl _)
  obtain ⟨j, j1, j2⟩ := svmin_ex (verts b) p q (sup_ok hb).pos _ (Nat.le_refl _)
  obtain ⟨k, k1, k2⟩ := svmin_ex (sumsI (verts a) (verts b) (verts a).length) p q pS _ (Nat.le_refl _)
  have m1 : addR (gets (verts a) (i : Nat)) (gets (verts b) (j : Nat)) ∈ sumsI (verts a) (verts b) (verts a).length :=
    sumsI_mem.2 ⟨_, gets_mem (by omega) (by omega), _, gets_mem (by omega) (by omega), rfl⟩
  obtain ⟨l, l1, l2⟩ := gets_ex m1
  have g1 := svmin_le (sumsI (verts a) (verts b) (verts a).length) p q _ l l1
  rw [l2, fS_add] at g1
  obtain ⟨v, hv, w, hw, e3⟩ := sumsI_mem.1 (show gets (sumsI (verts a) (verts b) (verts a).length) (k : Nat) ∈ _ from gets_mem (by omega) (by omega))
  obtain ⟨x, x1, rfl⟩ := gets_ex hv
  obtain ⟨y, y1, rfl⟩ := gets_ex hw
  rw [e3, fS_add] at k2
  have g2 := svmin_le (verts a) p q _ x x1
  have g3 := svmin_le (verts b) p q _ y y1
  omega

/-! ### The threshold -/
theorem frac_le {a b c d e f : Int} (hb : 0 < b) (hd : 0 < d) (hf : 0 < f) (h1 : a * d ≤ c * b) (h2 : c * f ≤ e * d) : a * f ≤ e * b := by
  refine Int.not_lt.1 fun hn => ?_
  have k1 : a * d * f ≤ c * b * f := Int.mul_le_mul_of_nonneg_right h1 (by omega)
  have k2 : c * f * b ≤ e * d * b := Int.mul_le_mul_of_nonneg_right h2 (by omega)
  have k3 : e * b * d < a * f * d := Int.mul_lt_mul_of_pos_right hn hd
  grind
structure ThrOk (V E : List (List Int)) (i : Nat) : Prop where
  t0 : th0 V * (thr V E i).2 ≤ (thr V E i).1
  tj : ∀ j : Nat, j < i → thA V E j * (thr V E i).2 ≤ (thr V E i).1 * thB E j
  eq : thr V E i = (th0 V, 1) ∨ ∃ j : Nat, j < i ∧ thr V E i = (thA V E j, thB E j)
theorem thr_ok {V E : List (List Int)} (hV : V60 V) (hE : EdOk E) (hp : 0 < V.length) : ∀ i : Nat, i ≤ V.length → i ≤ E.length → ThrOk V E i
  | 0, _, _ => ⟨by simp only [thr]; omega, fun j hj => by omega, .inl rfl⟩
  | i + 1, h1, h2 => by
    obtain ⟨t0, tj, te⟩ := thr_ok hV hE hp i (by omega) (by omega)
    have hin := thr_in hV hE hp i (by omega) (by omega)
    have hi := (th_in hV hE i (by omega) (by omega)).2.2
    by_cases hc : (thr V E i).1 * thB E i < thA V E i * (thr V E i).2
    · have e : thr V E (i + 1) = (thA V E i, thB E i) := by rw [thr, if_pos hc]
      refine ⟨?_, fun j hj => ?_, .inr ⟨i, by omega, e⟩⟩
      · rw [e]
        show th0 V * thB E i ≤ thA V E i
        have := frac_le (a := th0 V) (b := 1) (c := (thr V E i).1) (d := (thr V E i).2) (e := thA V E i) (f := thB E i) (by omega) (by omega) (by omega) (by omega) (by omega)
        omega
      · rw [e]
        show thA V E j * thB E i ≤ thA V E i * thB E j
        rcases Nat.lt_or_ge j i with hj2 | hj2
        · have hjb := (th_in hV hE j (by omega) (by omega)).2.2.2
          exact frac_le (c := (thr V E i).1) (d := (thr V E i).2) (by omega) (by omega) (by omega) (tj j hj2) (by omega)
        · obtain rfl : j = i := by omega
          exact Int.le_refl _
    · have e : thr V E (i + 1) = thr V E i := by rw [thr, if_neg hc]
      refine ⟨by rw [e]; exact t0, fun j hj => ?_, ?_⟩
      · rw [e]
        rcases Nat.lt_or_ge j i with hj2 | hj2
        · exact tj j hj2
        · obtain rfl : j = i := by omega
          omega
      · rw [e]
        rcases te with h | ⟨j, hj, h⟩
        · exact .inl h
        · exact .inr ⟨j, by omega, h⟩
/-- What is known of a threshold: (t, t) is in all half planes, and on the border of one. -/
structure ThOk (V : List (List Int)) (x y : Int) : Prop where
  x0 : (0 ≤ x ∧ x ≤ 120) ∧ (0 ≤ y ∧ y ≤ 7200)
  a0 : geti (V.getD 0 []) 0 * x ≤ y
  a1 : geti (V.getD (V.length - 1) []) 1 * x ≤ y
  aj : ∀ j : Nat, j < V.length - 1 → x * thA V (edL V (V.length - 1)) j ≤ y * thB (edL V (V.length - 1)) j
  met : (y = geti (V.getD 0 []) 0 * x ∨ y = geti (V.getD (V.length - 1) []) 1 * x) ∨ ∃ j : Nat, j < V.length - 1 ∧ y * thB (edL V (V.length - 1)) j = x * thA V (edL V (V.length - 1)) j
theorem th_ok {xss : List (List Int)} (h : thE xss = 0) : isSup xss = true ∧ ThOk (verts xss) (thX xss) (thY xss) := by
  have hs : isSup xss = true := by
    unfold thE at h
    split at h
    · assumption
    · cases h
  refine ⟨hs, ?_⟩
  have hA : (thF xss).1 ≠ 0 := by
    unfold thE at h
    rw [if_pos hs] at h
    intro e
    rw [if_pos e] at h
    cases h
  have hv := sup_ok hs
  have hE := edL_ok hv
  have hin := thr_in (v60 hv) hE hv.pos ((verts xss).length - 1) (by omega) (by rw [edL_len]; omega)
  have hok := thr_ok (v60 hv) hE hv.pos ((verts xss).length - 1) (by omega) (by rw [edL_len]; omega)
  have hr := thr_in (v60 hv) hE hv.pos
  have ex : thX xss = (thF xss).2 / (Int.gcd (thF xss).1 (thF xss).2 : Int) := by unfold thX; rw [if_pos h]
  have ey : thY xss = (thF xss).1 / (Int.gcd (thF xss).1 (thF xss).2 : Int) := by unfold thY; rw [if_pos h]
  have hF : thF xss = thr (verts xss) (edL (verts xss) ((verts xss).length - 1)) ((verts xss).length - 1) := rfl
  rw [ex, ey]
  rw [← hF] at hin
  have g0 := Int.gcd_pos_of_ne_zero_left (thF xss).2 hA
  have d1 := Int.gcd_dvd_left (thF xss).1 (thF xss).2
  have d2 := Int.gcd_dvd_right (thF xss).1 (thF xss).2
  obtain ⟨t0, tj, te⟩ := hok
  rw [← hF] at t0 tj te
  have hg : (0 : Int) < (Int.gcd (thF xss).1 (thF xss).2 : Int) := by omega
  generalize (Int.gcd (thF xss).1 (thF xss).2 : Int) = g at *
  obtain ⟨A, eA⟩ := d1
  obtain ⟨B, eB⟩ := d2
  have qa : (thF xss).1 / g = A := by rw [eA, Int.mul_ediv_cancel_left _ (by omega)]
  have qb : (thF xss).2 / g = B := by rw [eB, Int.mul_ediv_cancel_left _ (by omega)]
  rw [qa, qb]
  have can : ∀ x y : Int, g * x ≤ g * y → x ≤ y := fun x y h => Int.le_of_mul_le_mul_left h hg
  have cane : ∀ x y : Int, g * x = g * y → x = y := fun x y h => Int.eq_of_mul_eq_mul_left (by omega) h
  have hB : 1 ≤ B ∧ B ≤ 120 := by
    have h1 := hin.2
    rw [eB] at h1
    refine ⟨Int.not_lt.1 fun hn => ?_, ?_⟩
    · have := Int.mul_nonpos_of_nonneg_of_nonpos (show 0 ≤ g by omega) (show B ≤ 0 by omega); omega
    · refine Int.not_lt.1 fun hn => ?_
      have := Int.mul_le_mul_of_nonneg_right (show 1 ≤ g by omega) (show 0 ≤ B by omega)
      omega
  have hA2 : 0 ≤ A ∧ A ≤ 7200 := by
    have h1 := hin.1
    rw [eA] at h1
    refine ⟨Int.not_lt.1 fun hn => ?_, ?_⟩
    · have := Int.mul_neg_of_pos_of_neg hg hn; omega
    · refine Int.not_lt.1 fun hn => ?_
      have := Int.mul_le_mul_of_nonneg_right (show 1 ≤ g by omega) (show 0 ≤ A by omega)
      omega
  have e0 : th0 (verts xss) = max (geti ((verts xss).getD 0 []) 0) (geti ((verts xss).getD ((verts xss).length - 1) []) 1) := by
    have hp := hv.pos
    show max (geti ((verts xss).getD 0 []) 0) (geti ((verts xss).getD (((verts xss).length : Int) - 1).toNat []) 1) = _
    rw [show (((verts xss).length : Int) - 1).toNat = (verts xss).length - 1 by omega]
  have k0 : th0 (verts xss) * B ≤ A := can _ _ (by rw [eA, eB] at t0; grind)
  have m0 : geti ((verts xss).getD 0 []) 0 * B ≤ th0 (verts xss) * B := Int.mul_le_mul_of_nonneg_right (by omega) (by omega)
  have m1 : geti ((verts xss).getD ((verts xss).length - 1) []) 1 * B ≤ th0 (verts xss) * B := Int.mul_le_mul_of_nonneg_right (by omega) (by omega)
  refine ⟨⟨by omega, hA2⟩, by omega, by omega, fun j hj => ?_, ?_⟩
  · have := tj j hj
    rw [eA, eB] at this
    exact can _ _ (by grind)
  · rcases te with te | ⟨j, hj, te⟩
    · have q1 : g * A = th0 (verts xss) := by rw [← eA, te]
      have q2 : g * B = 1 := by rw [← eB, te]
      have q3 : A = th0 (verts xss) * B := cane _ _ (by rw [q1]; grind)
      refine .inl ?_
      rcases Int.le_total (geti ((verts xss).getD 0 []) 0) (geti ((verts xss).getD ((verts xss).length - 1) []) 1) with hl | hl
      · exact .inr (by rw [q3, e0, Int.max_eq_right hl])
      · exact .inl (by rw [q3, e0, Int.max_eq_left hl])
    · have q1 : g * A = thA (verts xss) (edL (verts xss) ((verts xss).length - 1)) j := by rw [← eA, te]
      have q2 : g * B = thB (edL (verts xss) ((verts xss).length - 1)) j := by rw [← eB, te]
      refine .inr ⟨j, hj, ?_⟩
      rw [← q1, ← q2]
      grind
end Go.Proofs.Ythlfdhooiekgjaa
/-
  What the law of polygons needs to know of a support. No condition.
-/
namespace Go.Proofs.Ythlfdhooiekgjaa
open Go Go.RowKit

def Rw (lo : Int) (v : List Int) : Prop := v.length = 2 ∧ (lo ≤ geti v 0 ∧ geti v 0 ≤ 60) ∧ (lo ≤ geti v 1 ∧ geti v 1 ≤ 60)
theorem ebL_row {E : List (List Int)} (h : EdOk E) : ∀ n, n ≤ E.length → ∀ e ∈ ebL E n, Rw 1 e
  | 0, _ => fun e he => by simp [ebL] at he
  | n + 1, hn => fun e he => by
    rw [ebL, List.mem_append] at he
    rcases he with he | he
    · exact ebL_row h n (by omega) e he
    · have hg := egD_in h n (by omega)
      obtain ⟨_, r0, r1⟩ := h n (by omega)
      have r0 : 0 < geti (E.getD n []) 0 ∧ geti (E.getD n []) 0 ≤ 60 := r0
      have r1 : 0 < geti (E.getD n []) 1 ∧ geti (E.getD n []) 1 ≤ 60 := r1
      have d1 : egD E n ∣ geti (E.getD n []) 0 := Int.gcd_dvd_left (geti (E.getD n []) 0) (geti (E.getD n []) 1)
      have d2 : egD E n ∣ geti (E.getD n []) 1 := Int.gcd_dvd_right (geti (E.getD n []) 0) (geti (E.getD n []) 1)
      have key : ∀ x : Int, 0 < x ∧ x ≤ 60 → egD E n ∣ x → 1 ≤ x / egD E n ∧ x / egD E n ≤ 60 := fun x hx hd => by
        have e1 := Int.mul_ediv_cancel' hd
        have e2 := Int.ediv_le_self (egD E n) (show 0 ≤ x by omega)
        have e3 : 0 ≤ x / egD E n := Int.ediv_nonneg (by omega) (by omega)
        refine ⟨Int.not_lt.1 fun hl => ?_, by omega⟩
        have e4 : x / egD E n = 0 := by omega
        rw [e4, Int.mul_zero] at e1
        omega
      rw [List.eq_of_mem_replicate he]
      exact ⟨rfl, key _ r0 d1, key _ r1 d2⟩
structure PolyOk (xss V E B : List (List Int)) : Prop where
  v : nvL xss = V
  e : neL xss = E
  b : ebF xss = B
  s : suE xss = 0
  vv : nvL V = V
  sv : suE V = 0
  len : E.length + 1 = V.length
  vl : V.length ≤ 61
  vr : ∀ v ∈ V, Rw 0 v
  er : ∀ e ∈ E, Rw 1 e
  br : ∀ e ∈ B, Rw 1 e
  bl : B.length ≤ 3600
  min : ∀ p q, (0 ≤ p ∧ p < 20) → (0 ≤ q ∧ q < 20) → svA V p q = svA xss p q ∧ svE xss p q = 0 ∧ svE V p q = 0
  s0 : geti (gets V 0) 0 + sS E0 E = geti (gets V ((V.length : Int) - 1)) 0
  s1 : geti (gets V 0) 1 - sS E1 E = geti (gets V ((V.length : Int) - 1)) 1
  b0 : sS E0 B = sS E0 E
  b1 : sS E1 B = sS E1 E
  cv : (isSup xss && conv (verts xss)) = conv V
  se : conv V = true → E.length ≠ 0 → seE E = 0 ∧ seL E = V
theorem poly_ok {xss : List (List Int)} (h : isSup xss = true) : PolyOk xss (verts xss) (edL (verts xss) ((verts xss).length - 1)) (ebL (edL (verts xss) ((verts xss).length - 1)) ((verts xss).length - 1)) := by
  have hv := sup_ok h
  have hp := hv.pos
  have hl := hv.len
  have hE := edL_ok hv
  have hs := ed_sum hv
  have vs := verts_sup h
  have he := edL_len (verts xss) ((verts xss).length - 1)
  have eb := eb_sum hE ((verts xss).length - 1) (by omega)
  rw [List.take_of_length_le (by omega)] at eb
  have g0 : gets (verts xss) 0 = (verts xss).getD 0 [] := gets_D (verts xss) 0
  have gl : gets (verts xss) (((verts xss).length : Int) - 1) = (verts xss).getD ((verts xss).length - 1) [] := by
    rw [show (((verts xss).length : Int) - 1) = (((verts xss).length - 1 : Nat) : Int) by omega, gets_D]
  exact {
    v := by rw [nvL, if_pos h]
    e := by rw [neL, if_pos h]
    b := by rw [ebF, if_pos h]
    s := by rw [suE, if_pos h]
    vv := by rw [nvL, if_pos vs, verts_verts h]
    sv := by rw [suE, if_pos vs]
    len := by omega
    vl := by omega
    vr := fun v hx => hv.row v hx
    er := fun e hx => ed_row hv hx
    br := ebL_row hE _ (by omega)
    bl := by have := ebL_len hE ((verts xss).length - 1) (by omega); omega
    min := fun p q hp hq => ⟨svA_verts h (by omega) (by omega), svE_ok h (by omega) (by omega), svE_ok vs (by omega) (by omega)⟩
    s0 := by rw [g0, gl]; exact hs.1
    s1 := by rw [g0, gl]; exact hs.2
    b0 := eb.1
    b1 := eb.2
    cv := by rw [h]; rfl
    se := fun hc hn => se_edges h hc (by omega) }
theorem gets_row {lo : Int} {E : List (List Int)} (h : ∀ e ∈ E, Rw lo e) {i : Nat} (hi : i < E.length) : Rw lo (gets E (i : Nat)) := h _ (gets_mem (by omega) (by omega))
end Go.Proofs.Ythlfdhooiekgjaa
/-
  What the law of areas needs to know of its supports. No condition.
-/
namespace Go.Proofs.Ythlfdhooiekgjaa
open Go Go.RowKit

theorem abA_in {xss : List (List Int)} : -2000020000000000 ≤ abA xss ∧ abA xss ≤ 2000020000000000 := by
  unfold abA
  split
  · rename_i h
    have hv := sup_ok (cv_parts h).1
    have := (nn_facts (by omega) hv).2.1
    omega
  · omega
theorem ar_facts {xss : List (List Int)} (h : cvE xss = 0) : ∃ V E B, PolyOk xss V E B ∧ nnA xss = abA xss - geti (gets V 0) 1 - geti (gets V ((V.length : Int) - 1)) 0 + 1 := by
  have hs := (cv_parts h).1
  refine ⟨_, _, _, poly_ok hs, ?_⟩
  unfold nnA abA
  rw [if_pos h, if_pos h]
theorem sos0 {a b : List (List Int)} (h : sosE a b = 0) : isSup a = true ∧ isSup b = true ∧ sosL a b = vsum a b ∧ ∀ r ∈ vsum a b, R60 r := by
  by_cases h1 : isSup a = true ∧ isSup b = true
  · by_cases h2 : ∀ r ∈ vsum a b, R60 r
    · exact ⟨h1.1, h1.2, (sos_ok h1 h2).2, h2⟩
    · have := (sos_lim h1 h2).1; omega
  · have := (sos_no h1).1; omega
structure ValOk (a b c : List (List Int)) (p q : Int) : Prop where
  s : svA a p q + svA b p q = svA c p q
  ea : svE a p q = 0
  eb : svE b p q = 0
  ec : svE c p q = 0
  ba : 0 ≤ svA a p q ∧ svA a p q ≤ 120000
  bb : 0 ≤ svA b p q ∧ svA b p q ≤ 120000
theorem svA_in {a : List (List Int)} {p q : Int} : 0 ≤ svA a p q ∧ svA a p q ≤ 120000 := by
  unfold svA
  split
  · rename_i h; exact svmin_in h.1 h.2.1 h.2.2 _
  · omega
theorem val_ok {a b : List (List Int)} (h : sosE a b = 0) {p q : Int} (hp : 0 ≤ p ∧ p < 30) (hq : 0 ≤ q ∧ q < 30) : ValOk a b (vsum a b) p q := by
  obtain ⟨h1, h2, _, h4⟩ := sos0 h
  have hp' : 0 ≤ p ∧ p ≤ 1000 := by omega
  have hq' : 0 ≤ q ∧ q ≤ 1000 := by omega
  exact ⟨sv_sum h1 h2 h4 hp' hq', svE_ok h1 hp' hq', svE_ok h2 hp' hq', svE_ok (sos_sup h1 h2 h4) hp' hq', svA_in, svA_in⟩
structure MixOk (a b c : List (List Int)) : Prop where
  ea : cvE a = 0
  eb : cvE b = 0
  ec : cvE c = 0
  s : abA c = abA a + abA b + 2 * maA a b
theorem mix_ok {a b : List (List Int)} (h : sosE a b = 0) (hm : maE a b = 0) : MixOk a b (vsum a b) := by
  obtain ⟨h1, h2, _, h4⟩ := sos0 h
  have hc : conv (verts a) = true ∧ conv (verts b) = true := Classical.byContradiction fun hn => by
    have := (ma_st ⟨h1, h2⟩ hn).1; omega
  have hs := sos_sup h1 h2 h4
  have hvv := vsum_verts h1 h2
  have cs := join_ex a b h1 h2 (join_ex2 a b h1 h2) hc.1 hc.2
  have ea : cvE a = 0 := by unfold cvE; rw [if_pos h1, if_pos hc.1]
  have eb : cvE b = 0 := by unfold cvE; rw [if_pos h2, if_pos hc.2]
  have ec : cvE (vsum a b) = 0 := by unfold cvE; rw [if_pos hs, hvv, if_pos cs]
  refine ⟨ea, eb, ec, ?_⟩
  unfold abA
  rw [if_pos ea, if_pos eb, if_pos ec, hvv]
  exact area_sum h1 h2 hc.1 hc.2
structure ThrF (V E : List (List Int)) (x y : Int) : Prop where
  x0 : (0 ≤ x ∧ x ≤ 120) ∧ (0 ≤ y ∧ y ≤ 7200)
  a0 : geti (gets V 0) 0 * x ≤ y
  a1 : geti (gets V ((V.length : Int) - 1)) 1 * x ≤ y
  aj : ∀ j : Nat, j < E.length → x * (geti (gets E (j : Nat)) 1 * geti (gets V (j : Nat)) 0 + geti (gets E (j : Nat)) 0 * geti (gets V (j : Nat)) 1) ≤ y * (geti (gets E (j : Nat)) 0 + geti (gets E (j : Nat)) 1)
  met : (y = geti (gets V 0) 0 * x ∨ y = geti (gets V ((V.length : Int) - 1)) 1 * x) ∨
    ∃ j : Nat, j < E.length ∧ y * (geti (gets E (j : Nat)) 0 + geti (gets E (j : Nat)) 1) = x * (geti (gets E (j : Nat)) 1 * geti (gets V (j : Nat)) 0 + geti (gets E (j : Nat)) 0 * geti (gets V (j : Nat)) 1)
theorem thr_facts {xss : List (List Int)} (h : thE xss = 0) : ∃ V E B, PolyOk xss V E B ∧ ThrF V E (thX xss) (thY xss) := by
  obtain ⟨hs, h1⟩ := th_ok h
  have hp := (sup_ok hs).pos
  obtain ⟨x0, a0, a1, aj, met⟩ := h1
  have g0 : gets (verts xss) 0 = (verts xss).getD 0 [] := gets_D (verts xss) 0
  have gl : gets (verts xss) (((verts xss).length : Int) - 1) = (verts xss).getD ((verts xss).length - 1) [] := by
    rw [show (((verts xss).length : Int) - 1) = (((verts xss).length - 1 : Nat) : Int) by omega, gets_D]
  have hE : (edL (verts xss) ((verts xss).length - 1)).length = (verts xss).length - 1 := edL_len _ _
  rw [← g0] at a0 met
  rw [← gl] at a1 met
  exact ⟨_, _, _, poly_ok hs, x0, a0, a1, fun j hj => aj j (by omega), met.imp_right fun ⟨j, hj, e⟩ => ⟨j, by omega, e⟩⟩
theorem thX_no {xss : List (List Int)} (h : thE xss ≠ 0) : thX xss = 0 := by unfold thX; rw [if_neg h]
theorem mul_b {a b A B : Int} (ha : 0 ≤ a ∧ a ≤ A) (hb : 0 ≤ b ∧ b ≤ B) : 0 ≤ a * b ∧ a * b ≤ A * B :=
  ⟨Int.mul_nonneg ha.1 hb.1, Int.mul_le_mul ha.2 hb.2 hb.1 (by omega)⟩
end Go.Proofs.Ythlfdhooiekgjaa
/-
  The laws of vertices, edges and areas of supports. No condition.
-/
namespace Go.Proofs.Ythlfdhooiekgjaa
open Go Go.RowKit
attribute [local irreducible] AWp AOps ResIs Ret1 QOp LOp COp AFnV AFn Imms LeE LeO
set_option maxHeartbeats 1000000
set_option linter.unusedSimpArgs false
set_option linter.unusedVariables false

end Go.Proofs.Ythlfdhooiekgjaa
/-
  The laws of thresholds and of the branches of edges. No condition.
-/
namespace Go.Proofs.Ythlfdhooiekgjaa
open Go Go.RowKit
attribute [local irreducible] AWp AOps ResIs Ret1 QOp LOp COp AFnV AFn Imms LeE LeO
set_option maxHeartbeats 1000000
set_option linter.unusedSimpArgs false
set_option linter.unusedVariables false

end Go.Proofs.Ythlfdhooiekgjaa
/-
  The law of areas. No condition.
-/
namespace Go.Proofs.Ythlfdhooiekgjaa
open Go Go.RowKit
theorem AOps.cut {P : Program} {l rest : List Oper} {K : APost} {env env' : Env} {os os' : List AO} (f : Fit env os env' os' ∨ ∃ σ, FitS σ env os env' os') (h : AOps P .seq l rest K env' os') : AOps P .seq l rest K env os := by
  intro base w0 w gs tm hr hb X Rt
  rcases f with f | ⟨σ, f⟩
  · obtain ⟨gs2, r2⟩ := hr.fit f
    exact h base w0 w gs2 tm r2 hb X Rt
  · obtain ⟨gs2, r2⟩ := hr.fits f
    exact h base w0 w gs2 tm r2 hb X Rt
/-- What is still to be shown, once for several places. -/
structure Tail (p : Prop) : Prop where
  h : p
theorem Tail.use {p q : Prop} (h : Tail p → q) (t : p) : q := h ⟨t⟩
attribute [local irreducible] AWp AOps ResIs Ret1 QOp LOp COp AFnV AFn Imms LeE LeO
set_option maxHeartbeats 1000000
set_option linter.unusedSimpArgs false
set_option linter.unusedVariables false

set_option maxRecDepth 8000 in
set_option maxHeartbeats 64000000 in
theorem lawAreas_c (bs : List Int) (hbs : ∀ x ∈ bs, 0 ≤ x ∧ x ≤ 255) : AFnV Try.prog 4 [.ro (byR bs)] (.bool true) := by
  have hb0 : ∀ i, 0 ≤ geti bs i ∧ geti bs i ≤ 255 := fun i => by
    unfold geti
    rw [List.getD_eq_getElem?_getD]
    cases h : bs[i.toNat]? with
    | none => simp
    | some x => exact hbs x (List.mem_of_getElem? h)
  have hbig := big_c bs
  (refine AFnV.start Try.func4 Try.ntmps4 rfl (by kernel_rfl) fun hk => ?_; simp only [Env.start, enumF, List.length_cons, List.length_nil, Nat.reduceAdd, Nat.reduceSub, List.cons_append, List.nil_append])
  by_cases hl : (4096 : Int) < bs.length
  · rw [decide_eq_true hl] at hbig
    repeat' (first | (apply AOps.nil; try simp only [List.nil_append, List.cons_append, List.set_cons_zero, List.set_cons_succ, List.length_cons, List.length_nil, Nat.reduceAdd, AV.sh, AV.sh1, AV.sh0, AO.sh, List.map_cons, List.map_nil, Nat.zero_add, Nat.add_zero, setAll]) | (apply w_move; exact rfl; exact rfl) | (apply w_assign; exact rfl; exact rfl) | apply AWp.seq | apply AWp.region | (apply AWp.condT; exact rfl) | apply AWp.ret | (apply w_call (hbig); exact rfl; exact rfl; focus ((repeat (first | exact im_nil | refine im_cons rfl (.ro _) ?_)); done)))
    all_goals exact .bool Try.results4 rfl rfl
  rw [decide_eq_false hl] at hbig
  have hl2 : bs.length ≤ 1048576 := by omega
  have hd1 := drawNN_c bs hl2 hb0
  have hd2 := drawMA_c bs hl2 hb0
  have hd3 := drawTh_c bs hl2 hb0
  apply Tail.use
  case h =>
    intro ht1
    repeat' (first | (apply AOps.nil; try simp only [List.nil_append, List.cons_append, List.set_cons_zero, List.set_cons_succ, List.length_cons, List.length_nil, Nat.reduceAdd, AV.sh, AV.sh1, AV.sh0, AO.sh, List.map_cons, List.map_nil, Nat.zero_add, Nat.add_zero, setAll]) | (apply w_move; exact rfl; exact rfl) | (apply w_assign; exact rfl; exact rfl) | apply AWp.seq | apply AWp.region | (apply AWp.condF; exact rfl) | apply AWp.skip | (apply w_call (hbig); exact rfl; exact rfl; focus ((repeat (first | exact im_nil | refine im_cons rfl (.ro _) ?_)); done)) | (apply w_callm (hd1); (focus ((repeat (first | exact im_nil | refine im_cons rfl (.ro _) ?_)); done)); rintro r os0 ⟨xss, rfl, rfl, hxl⟩; try simp only [List.nil_append, List.cons_append, List.set_cons_zero, List.set_cons_succ, List.length_cons, List.length_nil, Nat.reduceAdd, AV.sh, AV.sh1, AV.sh0, AO.sh, List.map_cons, List.map_nil, Nat.zero_add, Nat.add_zero, setAll]))
    have c1 := implNewtonNumber_c xss
    have c2 := specNewtonNumber_c xss
    have c3 := implAreaBelow_c xss
    have c4 := specAreaBelow_c xss
    by_cases hC : cvE xss = 0
    · obtain ⟨V, E, B, hP, hn⟩ := ar_facts hC
      have c5 := implNewtonVertices_c xss
      rw [hP.v, hP.s] at c5
      rw [hC] at c1 c2 c3 c4
      have hb1 := abA_in (xss := xss)
      have hlen := hP.len
      have hvl := hP.vl
      obtain ⟨z0, z1, z2⟩ : Rw 0 (gets V 0) := gets_row hP.vr (i := 0) (by omega)
      obtain ⟨l0, l1, l2⟩ : Rw 0 (gets V ((V.length : Int) - 1)) := by
        rw [show ((V.length : Int) - 1) = ((V.length - 1 : Nat) : Int) by omega]
        exact gets_row hP.vr (by omega)
      repeat' (first | (apply AOps.nil; try simp only [List.nil_append, List.cons_append, List.set_cons_zero, List.set_cons_succ, List.length_cons, List.length_nil, Nat.reduceAdd, AV.sh, AV.sh1, AV.sh0, AO.sh, List.map_cons, List.map_nil, Nat.zero_add, Nat.add_zero, setAll]) | ((apply AOps.splitP; exact rfl; exact rfl) <;> intro h) | (apply w_move; exact rfl; exact rfl) | (apply w_assign; exact rfl; exact rfl) | apply AWp.seq | apply AWp.region | ((apply AWp.condP; exact rfl) <;> intro h) | (apply AWp.condT; exact rfl) | apply AWp.ret | apply AWp.skip | (apply w_skip; exact rfl) | (apply w_pickT; exact rfl; exact rfl; exact rfl) | (apply w_pickF; exact rfl; exact rfl; exact rfl) | (apply w_call (c1); exact rfl; exact rfl; focus ((repeat (first | exact im_nil | refine im_cons rfl (.sls rfl) ?_)); done)) | (apply w_call (c2); exact rfl; exact rfl; focus ((repeat (first | exact im_nil | refine im_cons rfl (.sls rfl) ?_)); done)) | (apply w_call (c3); exact rfl; exact rfl; focus ((repeat (first | exact im_nil | refine im_cons rfl (.sls rfl) ?_)); done)) | (apply w_call (c4); exact rfl; exact rfl; focus ((repeat (first | exact im_nil | refine im_cons rfl (.sls rfl) ?_)); done)) | (apply w_callm (c5); (focus ((repeat (first | exact im_nil | refine im_cons rfl (.sls rfl) ?_)); done)); rintro r os0 ⟨rfl, rfl⟩; try simp only [List.nil_append, List.cons_append, List.set_cons_zero, List.set_cons_succ, List.length_cons, List.length_nil, Nat.reduceAdd, AV.sh, AV.sh1, AV.sh0, AO.sh, List.map_cons, List.map_nil, Nat.zero_add, Nat.add_zero, setAll]) | omega | contradiction | ((first | apply w_eql | apply w_neq | apply w_extv); iterate 3 exact rfl) | ((apply w_ext); iterate 3 exact rfl))
      all_goals try contradiction
      refine AWp.cut (env' := ⟨412, [(0, .ro (byR bs)), (4, .i (nnA xss)), (8, .i (abA xss)), (9, .i 0), (12, .own 0), (13, .i 0)]⟩) (os' := [.sls 38 2 V]) ?_ ?_
      · (apply Or.inr; refine ⟨[1], ⟨by decide, fun x hx => Nat.lt_of_lt_of_le ((by decide : ∀ x ∈ ([1] : List Nat), x < 2) x hx) (Nat.le_of_ble_eq_true rfl)⟩, lee rfl ?_, ?_, rfl, rfl⟩; (focus ((repeat (first | exact le_nil | refine le_eq rfl rfl ?_)); done)); (focus ((repeat (first | exact lo_nil | refine lo_eq rfl ?_)); done)))
      refine AWp.turns (Turns.freeze (k := 0) rfl) ?_
      simp only [Env.mp, List.map_cons, List.map_nil, List.set_cons_zero, List.set_cons_succ, AV.frz, AV.frz1, AO.frz, bL_frz, reduceIte, Nat.reduceEqDiff, Nat.zero_ne_one, Nat.one_ne_zero]
      generalize nnA xss = nn at *
      generalize abA xss = ab at *
      repeat' (first | (apply AOps.nil; try simp only [List.nil_append, List.cons_append, List.set_cons_zero, List.set_cons_succ, List.length_cons, List.length_nil, Nat.reduceAdd, AV.sh, AV.sh1, AV.sh0, AO.sh, List.map_cons, List.map_nil, Nat.zero_add, Nat.add_zero, setAll]) | ((apply AOps.splitP; exact rfl; exact rfl) <;> intro h) | (apply w_move; exact rfl; exact rfl) | (apply w_assign; exact rfl; exact rfl) | apply AWp.seq | apply AWp.region | ((apply AWp.condP; exact rfl) <;> intro h) | (apply AWp.condT; exact rfl) | apply AWp.ret | apply AWp.skip | (apply AWp.regionQ; kernel_rfl; kernel_rfl) | (apply w_skip; exact rfl) | (apply w_pickT; exact rfl; exact rfl; exact rfl) | (apply w_pickF; exact rfl; exact rfl; exact rfl) | (apply w_len; exact rfl; exact rfl; first | exact .ints _ | exact .intss _ | exact .sli rfl | exact .sls rfl | exact .slr rfl | exact .orow rfl | exact .nil) | omega | ((first | apply w_neq | apply w_add | apply w_sub | apply w_idx | apply w_ld); iterate 3 exact rfl) | ((first | apply w_idxs | apply w_lds); iterate 3 exact rfl) | (apply inI_of <;> omega))
      refine AOps.cut (env' := ⟨412, [(0, .ro (byR bs)), (129, .ro (byR bs))]⟩) (os' := []) ?_ ?_
      · (apply Or.inl; refine ⟨lee rfl ?_, ?_, rfl, rfl⟩; (focus ((repeat (first | exact le_nil | refine le_eq rfl rfl ?_)); done)); (focus ((repeat (exact lo_nil)); done)))
      · exact ht1.h
    · repeat' (first | (apply AOps.nil; try simp only [List.nil_append, List.cons_append, List.set_cons_zero, List.set_cons_succ, List.length_cons, List.length_nil, Nat.reduceAdd, AV.sh, AV.sh1, AV.sh0, AO.sh, List.map_cons, List.map_nil, Nat.zero_add, Nat.add_zero, setAll]) | ((apply AOps.splitP; exact rfl; exact rfl) <;> intro h) | (apply w_move; exact rfl; exact rfl) | (apply w_assign; exact rfl; exact rfl) | apply AWp.seq | apply AWp.region | ((apply AWp.condP; exact rfl) <;> intro h) | (apply AWp.condT; exact rfl) | apply AWp.ret | apply AWp.skip | (apply w_skip; exact rfl) | (apply w_pickT; exact rfl; exact rfl; exact rfl) | (apply w_pickF; exact rfl; exact rfl; exact rfl) | (apply w_call (c1); exact rfl; exact rfl; focus ((repeat (first | exact im_nil | refine im_cons rfl (.sls rfl) ?_)); done)) | (apply w_call (c2); exact rfl; exact rfl; focus ((repeat (first | exact im_nil | refine im_cons rfl (.sls rfl) ?_)); done)) | (apply w_call (c3); exact rfl; exact rfl; focus ((repeat (first | exact im_nil | refine im_cons rfl (.sls rfl) ?_)); done)) | (apply w_call (c4); exact rfl; exact rfl; focus ((repeat (first | exact im_nil | refine im_cons rfl (.sls rfl) ?_)); done)) | omega | ((first | apply w_eql | apply w_neq | apply w_extv); iterate 3 exact rfl))
      refine AOps.cut (env' := ⟨412, [(0, .ro (byR bs)), (129, .ro (byR bs))]⟩) (os' := []) ?_ ?_
      · (apply Or.inl; refine ⟨lee rfl ?_, ?_, rfl, rfl⟩; (focus ((repeat (first | exact le_nil | refine le_eq rfl rfl ?_)); done)); (focus ((repeat (exact lo_nil)); done)))
      · exact ht1.h
  apply Tail.use
  case h =>
    intro ht2
    repeat' (first | (apply AOps.nil; try simp only [List.nil_append, List.cons_append, List.set_cons_zero, List.set_cons_succ, List.length_cons, List.length_nil, Nat.reduceAdd, AV.sh, AV.sh1, AV.sh0, AO.sh, List.map_cons, List.map_nil, Nat.zero_add, Nat.add_zero, setAll]) | (apply w_move; exact rfl; exact rfl) | (apply w_assign; exact rfl; exact rfl) | apply AWp.seq | apply AWp.region | (apply w_callm (hd2); (focus ((repeat (first | exact im_nil | refine im_cons rfl (.ro _) ?_)); done)); rintro r os0 ⟨a, b, rfl, rfl, hal, hbl⟩; try simp only [List.nil_append, List.cons_append, List.set_cons_zero, List.set_cons_succ, List.length_cons, List.length_nil, Nat.reduceAdd, AV.sh, AV.sh1, AV.sh0, AO.sh, List.map_cons, List.map_nil, Nat.zero_add, Nat.add_zero, setAll]) | ((apply w_ext); iterate 3 exact rfl))
    have d1 := implMixedArea_c a b
    have d2 := specMixedArea_c a b
    have d3 := implSumOfSupports_c a b
    have d4 := specSumOfSupports_c a b
    have q := same9_t (sosL a b) (by have := (sosL_ok a b).1; omega) (sosL_ok a b).2
    have hb30 := below_c bs hl2 hb0 30 (by omega)
    by_cases hF : sosE a b = 0
    · have hL := (sos0 hF).2.2.1
      have vf := fun p q hp hq => val_ok hF (p := p) (q := q) hp hq
      have mx := mix_ok hF
      rw [hF, hL] at d3 d4
      rw [hL] at q
      generalize vsum a b = c at *
      repeat' (first | (apply AOps.nil; try simp only [List.nil_append, List.cons_append, List.set_cons_zero, List.set_cons_succ, List.length_cons, List.length_nil, Nat.reduceAdd, AV.sh, AV.sh1, AV.sh0, AO.sh, List.map_cons, List.map_nil, Nat.zero_add, Nat.add_zero, setAll]) | ((apply AOps.splitP; exact rfl; exact rfl) <;> intro h) | (apply w_move; exact rfl; exact rfl) | (apply w_assign; exact rfl; exact rfl) | apply AWp.seq | apply AWp.region | ((apply AWp.condP; exact rfl) <;> intro h) | (apply AWp.condT; exact rfl) | (apply AWp.condF; exact rfl) | apply AWp.ret | apply AWp.skip | (apply w_skip; exact rfl) | (apply w_pickT; exact rfl; exact rfl; exact rfl) | (apply w_pickF; exact rfl; exact rfl; exact rfl) | ((apply w_not); iterate 2 exact rfl) | (apply w_call (d1); exact rfl; exact rfl; focus ((repeat (first | exact im_nil | refine im_cons rfl (.sls rfl) ?_)); done)) | (apply w_call (d2); exact rfl; exact rfl; focus ((repeat (first | exact im_nil | refine im_cons rfl (.sls rfl) ?_)); done)) | (apply w_callm (d3); (focus ((repeat (first | exact im_nil | refine im_cons rfl (.sls rfl) ?_)); done)); rintro r os0 ⟨rfl, rfl⟩; try simp only [List.nil_append, List.cons_append, List.set_cons_zero, List.set_cons_succ, List.length_cons, List.length_nil, Nat.reduceAdd, AV.sh, AV.sh1, AV.sh0, AO.sh, List.map_cons, List.map_nil, Nat.zero_add, Nat.add_zero, setAll]) | (apply w_callm (d4); (focus ((repeat (first | exact im_nil | refine im_cons rfl (.sls rfl) ?_)); done)); rintro r os0 ⟨rfl, rfl⟩; try simp only [List.nil_append, List.cons_append, List.set_cons_zero, List.set_cons_succ, List.length_cons, List.length_nil, Nat.reduceAdd, AV.sh, AV.sh1, AV.sh0, AO.sh, List.map_cons, List.map_nil, Nat.zero_add, Nat.add_zero, setAll]) | (apply w_call (q); exact rfl; exact rfl; focus ((repeat (first | exact im_nil | refine im_cons rfl (.sls rfl) ?_)); done)) | (apply w_callsog ((roll_c bs hl2 hb0 5016)); exact rfl; exact rfl; (exact rdB_by _); exact rfl; try simp only [List.nil_append, List.cons_append, List.set_cons_zero, List.set_cons_succ, List.length_cons, List.length_nil, Nat.reduceAdd, AV.sh, AV.sh1, AV.sh0, AO.sh, List.map_cons, List.map_nil, Nat.zero_add, Nat.add_zero, setAll]) | (apply w_callso (hb30); exact rfl; exact rfl; exact rfl; exact rfl; (exact rdB_by _); (rintro _ ⟨x, rfl, hx⟩)) | omega | contradiction | ((first | apply w_eql | apply w_neq | apply w_extv); iterate 3 exact rfl) | ((apply w_ext); iterate 3 exact rfl))
      all_goals try contradiction
      rename_i xa hxa
      obtain ⟨v1, v2, v3, v4, v5, v6⟩ := vf xa x (by omega) (by omega)
      have s1 := implSupportValue_c a xa x
      have s2 := implSupportValue_c b xa x
      have s3 := implSupportValue_c c xa x
      rw [v2] at s1
      rw [v3] at s2
      rw [v4] at s3
      generalize svA a xa x = sa at *
      generalize svA b xa x = sb at *
      generalize svA c xa x = sc at *
      by_cases hM : maE a b = 0
      · obtain ⟨m1, m2, m3, m4⟩ := mx hM
        have e1 := implAreaBelow_c a
        have e2 := implAreaBelow_c b
        have e3 := implAreaBelow_c c
        have g1 := abA_in (xss := a)
        have g2 := abA_in (xss := b)
        have g3 := abA_in (xss := c)
        rw [m1] at e1
        rw [m2] at e2
        rw [m3] at e3
        generalize abA a = aa at *
        generalize abA b = ab at *
        generalize abA c = ac at *
        generalize maA a b = am at *
        repeat' (first | (apply AOps.nil; try simp only [List.nil_append, List.cons_append, List.set_cons_zero, List.set_cons_succ, List.length_cons, List.length_nil, Nat.reduceAdd, AV.sh, AV.sh1, AV.sh0, AO.sh, List.map_cons, List.map_nil, Nat.zero_add, Nat.add_zero, setAll]) | ((apply AOps.splitP; exact rfl; exact rfl) <;> intro h) | (apply w_move; exact rfl; exact rfl) | (apply w_assign; exact rfl; exact rfl) | apply AWp.seq | apply AWp.region | ((apply AWp.condP; exact rfl) <;> intro h) | (apply AWp.condT; exact rfl) | apply AWp.ret | apply AWp.skip | (apply w_skip; exact rfl) | (apply w_pickT; exact rfl; exact rfl; exact rfl) | (apply w_pickF; exact rfl; exact rfl; exact rfl) | (apply w_call (s1); exact rfl; exact rfl; focus ((repeat (first | exact im_nil | refine im_cons rfl (.val _) ?_ | refine im_cons rfl (.sls rfl) ?_)); done)) | (apply w_call (s2); exact rfl; exact rfl; focus ((repeat (first | exact im_nil | refine im_cons rfl (.val _) ?_ | refine im_cons rfl (.sls rfl) ?_)); done)) | (apply w_call (s3); exact rfl; exact rfl; focus ((repeat (first | exact im_nil | refine im_cons rfl (.val _) ?_ | refine im_cons rfl (.sls rfl) ?_)); done)) | (apply w_call (e1); exact rfl; exact rfl; focus ((repeat (first | exact im_nil | refine im_cons rfl (.sls rfl) ?_)); done)) | (apply w_call (e2); exact rfl; exact rfl; focus ((repeat (first | exact im_nil | refine im_cons rfl (.sls rfl) ?_)); done)) | (apply w_call (e3); exact rfl; exact rfl; focus ((repeat (first | exact im_nil | refine im_cons rfl (.sls rfl) ?_)); done)) | omega | ((first | apply w_eql | apply w_neq | apply w_add | apply w_mul | apply w_extv); iterate 3 exact rfl) | (apply inI_of <;> omega))
        all_goals try contradiction
        refine AOps.cut (env' := ⟨412, [(0, .ro (byR bs)), (257, .ro (byR bs))]⟩) (os' := []) ?_ ?_
        · (apply Or.inl; refine ⟨lee rfl ?_, ?_, rfl, rfl⟩; (focus ((repeat (first | exact le_nil | refine le_eq rfl rfl ?_)); done)); (focus ((repeat (exact lo_nil)); done)))
        · exact ht2.h
      · repeat' (first | (apply AOps.nil; try simp only [List.nil_append, List.cons_append, List.set_cons_zero, List.set_cons_succ, List.length_cons, List.length_nil, Nat.reduceAdd, AV.sh, AV.sh1, AV.sh0, AO.sh, List.map_cons, List.map_nil, Nat.zero_add, Nat.add_zero, setAll]) | ((apply AOps.splitP; exact rfl; exact rfl) <;> intro h) | (apply w_move; exact rfl; exact rfl) | (apply w_assign; exact rfl; exact rfl) | apply AWp.seq | apply AWp.region | ((apply AWp.condP; exact rfl) <;> intro h) | (apply AWp.condT; exact rfl) | apply AWp.ret | apply AWp.skip | (apply w_skip; exact rfl) | (apply w_pickT; exact rfl; exact rfl; exact rfl) | (apply w_pickF; exact rfl; exact rfl; exact rfl) | (apply w_call (s1); exact rfl; exact rfl; focus ((repeat (first | exact im_nil | refine im_cons rfl (.val _) ?_ | refine im_cons rfl (.sls rfl) ?_)); done)) | (apply w_call (s2); exact rfl; exact rfl; focus ((repeat (first | exact im_nil | refine im_cons rfl (.val _) ?_ | refine im_cons rfl (.sls rfl) ?_)); done)) | (apply w_call (s3); exact rfl; exact rfl; focus ((repeat (first | exact im_nil | refine im_cons rfl (.val _) ?_ | refine im_cons rfl (.sls rfl) ?_)); done)) | omega | ((first | apply w_eql | apply w_neq | apply w_add | apply w_extv); iterate 3 exact rfl) | (apply inI_of <;> omega))
        all_goals try contradiction
        refine AOps.cut (env' := ⟨412, [(0, .ro (byR bs)), (257, .ro (byR bs))]⟩) (os' := []) ?_ ?_
        · (apply Or.inl; refine ⟨lee rfl ?_, ?_, rfl, rfl⟩; (focus ((repeat (first | exact le_nil | refine le_eq rfl rfl ?_)); done)); (focus ((repeat (exact lo_nil)); done)))
        · exact ht2.h
    · repeat' (first | (apply AOps.nil; try simp only [List.nil_append, List.cons_append, List.set_cons_zero, List.set_cons_succ, List.length_cons, List.length_nil, Nat.reduceAdd, AV.sh, AV.sh1, AV.sh0, AO.sh, List.map_cons, List.map_nil, Nat.zero_add, Nat.add_zero, setAll]) | ((apply AOps.splitP; exact rfl; exact rfl) <;> intro h) | (apply w_move; exact rfl; exact rfl) | (apply w_assign; exact rfl; exact rfl) | apply AWp.seq | apply AWp.region | ((apply AWp.condP; exact rfl) <;> intro h) | (apply AWp.condT; exact rfl) | (apply AWp.condF; exact rfl) | apply AWp.ret | apply AWp.skip | (apply w_skip; exact rfl) | (apply w_pickT; exact rfl; exact rfl; exact rfl) | (apply w_pickF; exact rfl; exact rfl; exact rfl) | ((apply w_not); iterate 2 exact rfl) | (apply w_call (d1); exact rfl; exact rfl; focus ((repeat (first | exact im_nil | refine im_cons rfl (.sls rfl) ?_)); done)) | (apply w_call (d2); exact rfl; exact rfl; focus ((repeat (first | exact im_nil | refine im_cons rfl (.sls rfl) ?_)); done)) | (apply w_callm (d3); (focus ((repeat (first | exact im_nil | refine im_cons rfl (.sls rfl) ?_)); done)); rintro r os0 ⟨rfl, rfl⟩; try simp only [List.nil_append, List.cons_append, List.set_cons_zero, List.set_cons_succ, List.length_cons, List.length_nil, Nat.reduceAdd, AV.sh, AV.sh1, AV.sh0, AO.sh, List.map_cons, List.map_nil, Nat.zero_add, Nat.add_zero, setAll]) | (apply w_callm (d4); (focus ((repeat (first | exact im_nil | refine im_cons rfl (.sls rfl) ?_)); done)); rintro r os0 ⟨rfl, rfl⟩; try simp only [List.nil_append, List.cons_append, List.set_cons_zero, List.set_cons_succ, List.length_cons, List.length_nil, Nat.reduceAdd, AV.sh, AV.sh1, AV.sh0, AO.sh, List.map_cons, List.map_nil, Nat.zero_add, Nat.add_zero, setAll]) | (apply w_call (q); exact rfl; exact rfl; focus ((repeat (first | exact im_nil | refine im_cons rfl (.sls rfl) ?_)); done)) | omega | ((first | apply w_eql | apply w_neq | apply w_extv); iterate 3 exact rfl) | ((apply w_ext); iterate 3 exact rfl))
      all_goals try contradiction
      refine AOps.cut (env' := ⟨412, [(0, .ro (byR bs)), (257, .ro (byR bs))]⟩) (os' := []) ?_ ?_
      · (apply Or.inl; refine ⟨lee rfl ?_, ?_, rfl, rfl⟩; (focus ((repeat (first | exact le_nil | refine le_eq rfl rfl ?_)); done)); (focus ((repeat (exact lo_nil)); done)))
      · exact ht2.h
  repeat' (first | (apply AOps.nil; try simp only [List.nil_append, List.cons_append, List.set_cons_zero, List.set_cons_succ, List.length_cons, List.length_nil, Nat.reduceAdd, AV.sh, AV.sh1, AV.sh0, AO.sh, List.map_cons, List.map_nil, Nat.zero_add, Nat.add_zero, setAll]) | (apply w_move; exact rfl; exact rfl) | (apply w_assign; exact rfl; exact rfl) | apply AWp.seq | apply AWp.region | (apply w_callm (hd3); (focus ((repeat (first | exact im_nil | refine im_cons rfl (.ro _) ?_)); done)); rintro r os0 ⟨xs, rfl, rfl, hxl⟩; try simp only [List.nil_append, List.cons_append, List.set_cons_zero, List.set_cons_succ, List.length_cons, List.length_nil, Nat.reduceAdd, AV.sh, AV.sh1, AV.sh0, AO.sh, List.map_cons, List.map_nil, Nat.zero_add, Nat.add_zero, setAll]))
  have f1 := implThresholdOf_c xs
  have f2 := specThresholdOf_c xs
  by_cases hT : thE xs = 0
  · obtain ⟨V, E, B, hP, hF⟩ := thr_facts hT
    rw [hT] at f1 f2
    have c5 := implNewtonVertices_c xs
    rw [hP.v, hP.s] at c5
    have c6 := implNewtonEdges_c xs
    rw [hP.e, hP.s] at c6
    generalize thX xs = X at *
    generalize thY xs = Y at *
    obtain ⟨⟨x0, y0⟩, a0, a1, aj, met⟩ := hF
    have hlen := hP.len
    have hvl := hP.vl
    obtain ⟨z0, z1, z2⟩ : Rw 0 (gets V 0) := gets_row hP.vr (i := 0) (by omega)
    obtain ⟨l0, l1, l2⟩ : Rw 0 (gets V ((V.length : Int) - 1)) := by
      rw [show ((V.length : Int) - 1) = ((V.length - 1 : Nat) : Int) by omega]
      exact gets_row hP.vr (by omega)
    have b0 := mul_b z1 x0
    have b1 := mul_b l2 x0
    repeat' (first | (apply AOps.nil; try simp only [List.nil_append, List.cons_append, List.set_cons_zero, List.set_cons_succ, List.length_cons, List.length_nil, Nat.reduceAdd, AV.sh, AV.sh1, AV.sh0, AO.sh, List.map_cons, List.map_nil, Nat.zero_add, Nat.add_zero, setAll]) | ((apply AOps.splitP; exact rfl; exact rfl) <;> intro h) | (apply w_move; exact rfl; exact rfl) | (apply w_assign; exact rfl; exact rfl) | apply AWp.seq | apply AWp.region | ((apply AWp.condP; exact rfl) <;> intro h) | (apply AWp.condT; exact rfl) | apply AWp.ret | apply AWp.skip | (apply w_skip; exact rfl) | (apply w_pickT; exact rfl; exact rfl; exact rfl) | (apply w_pickF; exact rfl; exact rfl; exact rfl) | (apply w_call (f1); exact rfl; exact rfl; focus ((repeat (first | exact im_nil | refine im_cons rfl (.sls rfl) ?_)); done)) | (apply w_call (f2); exact rfl; exact rfl; focus ((repeat (first | exact im_nil | refine im_cons rfl (.sls rfl) ?_)); done)) | (apply w_callm (c5); (focus ((repeat (first | exact im_nil | refine im_cons rfl (.sls rfl) ?_)); done)); rintro r os0 ⟨rfl, rfl⟩; try simp only [List.nil_append, List.cons_append, List.set_cons_zero, List.set_cons_succ, List.length_cons, List.length_nil, Nat.reduceAdd, AV.sh, AV.sh1, AV.sh0, AO.sh, List.map_cons, List.map_nil, Nat.zero_add, Nat.add_zero, setAll]) | omega | ((first | apply w_neq | apply w_extv); iterate 3 exact rfl) | ((apply w_ext); iterate 3 exact rfl))
    all_goals try contradiction
    refine AOps.cut (env' := ⟨412, [(40, .i X), (41, .i Y), (47, .own 1), (48, .i 0), (294, .own 0)]⟩) (os' := [.sls 38 2 xs, .sls 38 2 V]) ?_ ?_
    · (apply Or.inl; refine ⟨lee rfl ?_, ?_, rfl, rfl⟩; (focus ((repeat (first | exact le_nil | refine le_eq rfl rfl ?_)); done)); (focus ((repeat (first | exact lo_nil | refine lo_eq rfl ?_)); done)))
    refine AOps.turns (Turns.freeze (k := 1) rfl) ?_
    simp only [Env.mp, List.map_cons, List.map_nil, List.set_cons_zero, List.set_cons_succ, AV.frz, AV.frz1, AO.frz, bL_frz, reduceIte, Nat.reduceEqDiff, Nat.zero_ne_one, Nat.one_ne_zero]
    repeat' (first | (apply AOps.nil; try simp only [List.nil_append, List.cons_append, List.set_cons_zero, List.set_cons_succ, List.length_cons, List.length_nil, Nat.reduceAdd, AV.sh, AV.sh1, AV.sh0, AO.sh, List.map_cons, List.map_nil, Nat.zero_add, Nat.add_zero, setAll]) | ((apply AOps.splitP; exact rfl; exact rfl) <;> intro h) | (apply w_move; exact rfl; exact rfl) | (apply w_assign; exact rfl; exact rfl) | apply AWp.seq | apply AWp.region | ((apply AWp.condP; exact rfl) <;> intro h) | (apply AWp.condT; exact rfl) | apply AWp.block | apply AWp.ret | apply AWp.skip | (apply w_skip; exact rfl) | (apply w_pickT; exact rfl; exact rfl; exact rfl) | (apply w_pickF; exact rfl; exact rfl; exact rfl) | (apply w_len; exact rfl; exact rfl; first | exact .ints _ | exact .intss _ | exact .sli rfl | exact .sls rfl | exact .slr rfl | exact .orow rfl | exact .nil) | (apply w_callm (c6); (focus ((repeat (first | exact im_nil | refine im_cons rfl (.sls rfl) ?_)); done)); rintro r os0 ⟨rfl, rfl⟩; try simp only [List.nil_append, List.cons_append, List.set_cons_zero, List.set_cons_succ, List.length_cons, List.length_nil, Nat.reduceAdd, AV.sh, AV.sh1, AV.sh0, AO.sh, List.map_cons, List.map_nil, Nat.zero_add, Nat.add_zero, setAll]) | omega | ((first | apply w_lss | apply w_eql | apply w_neq | apply w_sub | apply w_mul | apply w_idx | apply w_ld | apply w_extv); iterate 3 exact rfl) | ((first | apply w_idxs | apply w_lds | apply w_ext); iterate 3 exact rfl) | (apply inI_of <;> omega))
    all_goals try contradiction
    · refine AWp.cut (env' := ⟨412, [(40, .i X), (41, .i Y), (46, .b true), (47, .intss V), (49, .own 0), (51, .i 0)]⟩) (os' := [.sls 38 2 E]) ?_ ?_
      · (apply Or.inr; refine ⟨[2], ⟨by decide, fun x hx => Nat.lt_of_lt_of_le ((by decide : ∀ x ∈ ([2] : List Nat), x < 3) x hx) (Nat.le_of_ble_eq_true rfl)⟩, lee rfl ?_, ?_, rfl, rfl⟩; (focus ((repeat (first | exact le_nil | refine le_eq rfl rfl ?_)); done)); (focus ((repeat (first | exact lo_nil | refine lo_eq rfl ?_)); done)))
      refine AWp.turns (Turns.freeze (k := 0) rfl) ?_
      simp only [Env.mp, List.map_cons, List.map_nil, List.set_cons_zero, List.set_cons_succ, AV.frz, AV.frz1, AO.frz, bL_frz, reduceIte, Nat.reduceEqDiff, Nat.zero_ne_one, Nat.one_ne_zero]
      refine AWp.loop (ι := Nat × Bool) (fun s => ⟨412, [(40, .i X), (41, .i Y), (46, .b s.2), (47, .intss V), (49, .intss E), (51, .i s.1)]⟩) (fun _ => [.dead]) (fun s => s.1 ≤ E.length ∧ (s.2 = true ∨ ∃ j : Nat, s.1 ≤ j ∧ j < E.length ∧ Y * (geti (gets E (j : Nat)) 0 + geti (gets E (j : Nat)) 1) = X * (geti (gets E (j : Nat)) 1 * geti (gets V (j : Nat)) 0 + geti (gets E (j : Nat)) 0 * geti (gets V (j : Nat)) 1))) (fun s => E.length - s.1) (0, true) ⟨Nat.zero_le _, .inl rfl⟩ ⟨lee rfl (by (repeat (first | exact le_nil | refine le_eq rfl rfl ?_))), by (repeat (first | exact lo_nil | refine lo_dead ?_)), rfl, rfl⟩ ?_
      rintro ⟨i, mt⟩ ⟨i0, hm⟩
      simp only at i0 hm
      by_cases hi : i < E.length
      · obtain ⟨r0, r1, r2⟩ := gets_row hP.er hi
        obtain ⟨v0, v1, v2⟩ := gets_row hP.vr (i := i) (by omega)
        have haj := aj i hi
        have p1 := mul_b (a := geti (gets E (i : Nat)) 1) (b := geti (gets V (i : Nat)) 0) (A := 60) (B := 60) (by omega) (by omega)
        have p2 := mul_b (a := geti (gets E (i : Nat)) 0) (b := geti (gets V (i : Nat)) 1) (A := 60) (B := 60) (by omega) (by omega)
        have p3 := mul_b (a := Y) (b := geti (gets E (i : Nat)) 0 + geti (gets E (i : Nat)) 1) (A := 7200) (B := 120) y0 (by omega)
        have p4 := mul_b (a := X) (b := geti (gets E (i : Nat)) 1 * geti (gets V (i : Nat)) 0 + geti (gets E (i : Nat)) 0 * geti (gets V (i : Nat)) 1) (A := 120) (B := 7200) x0 (by omega)
        cases mt with
        | true =>
          repeat' (first | (apply AOps.nil; try simp only [List.nil_append, List.cons_append, List.set_cons_zero, List.set_cons_succ, List.length_cons, List.length_nil, Nat.reduceAdd, AV.sh, AV.sh1, AV.sh0, AO.sh, List.map_cons, List.map_nil, Nat.zero_add, Nat.add_zero, setAll]) | (apply w_move; exact rfl; exact rfl) | (apply w_assign; exact rfl; exact rfl) | apply AWp.seq | apply AWp.region | ((apply AWp.condP; exact rfl) <;> intro h) | apply AWp.block | apply AWp.ret | apply AWp.exit | apply AWp.skip | (apply AWp.regionQ; kernel_rfl; kernel_rfl) | (apply w_skip; exact rfl) | (apply w_pickT; exact rfl; exact rfl; exact rfl) | (apply w_len; exact rfl; exact rfl; first | exact .ints _ | exact .intss _ | exact .sli rfl | exact .sls rfl | exact .slr rfl | exact .orow rfl | exact .nil) | omega | ((first | apply w_lss | apply w_add | apply w_mul | apply w_idx | apply w_ld); iterate 3 exact rfl) | ((first | apply w_idxs | apply w_lds); iterate 3 exact rfl) | (apply inI_of <;> omega))
          exact ⟨(i + 1, true), ⟨by simp only; omega, .inl rfl⟩, by simp only; omega, ⟨lee rfl (by (repeat (first | exact le_nil | refine le_eq rfl rfl ?_))), by (repeat (first | exact lo_nil | refine lo_dead ?_)), rfl, rfl⟩⟩
        | false =>
          repeat' (first | (apply AOps.nil; try simp only [List.nil_append, List.cons_append, List.set_cons_zero, List.set_cons_succ, List.length_cons, List.length_nil, Nat.reduceAdd, AV.sh, AV.sh1, AV.sh0, AO.sh, List.map_cons, List.map_nil, Nat.zero_add, Nat.add_zero, setAll]) | (apply w_move; exact rfl; exact rfl) | (apply w_assign; exact rfl; exact rfl) | apply AWp.seq | apply AWp.region | ((apply AWp.condP; exact rfl) <;> intro h) | apply AWp.block | apply AWp.ret | apply AWp.exit | apply AWp.skip | (apply AWp.regionQ; kernel_rfl; kernel_rfl) | (apply w_pickF; exact rfl; exact rfl; exact rfl) | (apply w_len; exact rfl; exact rfl; first | exact .ints _ | exact .intss _ | exact .sli rfl | exact .sls rfl | exact .slr rfl | exact .orow rfl | exact .nil) | omega | ((first | apply w_lss | apply w_eql | apply w_add | apply w_mul | apply w_idx | apply w_ld); iterate 3 exact rfl) | ((first | apply w_idxs | apply w_lds); iterate 3 exact rfl) | (apply inI_of <;> omega))
          refine ⟨(i + 1, decide (Y * (geti (gets E (i : Nat)) 0 + geti (gets E (i : Nat)) 1) = X * (geti (gets E (i : Nat)) 1 * geti (gets V (i : Nat)) 0 + geti (gets E (i : Nat)) 0 * geti (gets V (i : Nat)) 1))), ⟨by simp only; omega, ?_⟩, by simp only; omega, ⟨lee rfl (by (repeat (first | exact le_nil | refine le_eq rfl rfl ?_))), by (repeat (first | exact lo_nil | refine lo_dead ?_)), rfl, rfl⟩⟩
          rcases hm with hm | ⟨j, j0, j1, j2⟩
          · cases hm
          · rcases Nat.lt_or_ge i j with hij | hij
            · exact .inr ⟨j, hij, j1, j2⟩
            · obtain rfl : j = i := by omega
              exact .inl (decide_eq_true j2)
      rcases hm with hm | ⟨j, j0, j1, j2⟩
      · subst hm
        repeat' (first | (apply AOps.nil; try simp only [List.nil_append, List.cons_append, List.set_cons_zero, List.set_cons_succ, List.length_cons, List.length_nil, Nat.reduceAdd, AV.sh, AV.sh1, AV.sh0, AO.sh, List.map_cons, List.map_nil, Nat.zero_add, Nat.add_zero, setAll]) | (apply w_move; exact rfl; exact rfl) | (apply w_assign; exact rfl; exact rfl) | apply AWp.seq | apply AWp.region | ((apply AWp.condP; exact rfl) <;> intro h) | apply AWp.block | apply AWp.ret | apply AWp.exit | apply AWp.skip | (apply w_len; exact rfl; exact rfl; first | exact .ints _ | exact .intss _ | exact .sli rfl | exact .sls rfl | exact .slr rfl | exact .orow rfl | exact .nil) | omega | ((apply w_lss); iterate 3 exact rfl))
        all_goals exact .bool Try.results4 rfl rfl
      · exfalso; omega
    · refine AWp.cut (env' := ⟨412, [(40, .i X), (41, .i Y), (46, .b (decide (Y = geti (gets V ((V.length : Int) - 1)) 1 * X))), (47, .intss V), (49, .own 0), (51, .i 0)]⟩) (os' := [.sls 38 2 E]) ?_ ?_
      · (apply Or.inr; refine ⟨[2], ⟨by decide, fun x hx => Nat.lt_of_lt_of_le ((by decide : ∀ x ∈ ([2] : List Nat), x < 3) x hx) (Nat.le_of_ble_eq_true rfl)⟩, lee rfl ?_, ?_, rfl, rfl⟩; (focus ((repeat (first | exact le_nil | refine le_eq rfl rfl ?_)); done)); (focus ((repeat (first | exact lo_nil | refine lo_eq rfl ?_)); done)))
      refine AWp.turns (Turns.freeze (k := 0) rfl) ?_
      simp only [Env.mp, List.map_cons, List.map_nil, List.set_cons_zero, List.set_cons_succ, AV.frz, AV.frz1, AO.frz, bL_frz, reduceIte, Nat.reduceEqDiff, Nat.zero_ne_one, Nat.one_ne_zero]
      refine AWp.loop (ι := Nat × Bool) (fun s => ⟨412, [(40, .i X), (41, .i Y), (46, .b s.2), (47, .intss V), (49, .intss E), (51, .i s.1)]⟩) (fun _ => [.dead]) (fun s => s.1 ≤ E.length ∧ (s.2 = true ∨ ∃ j : Nat, s.1 ≤ j ∧ j < E.length ∧ Y * (geti (gets E (j : Nat)) 0 + geti (gets E (j : Nat)) 1) = X * (geti (gets E (j : Nat)) 1 * geti (gets V (j : Nat)) 0 + geti (gets E (j : Nat)) 0 * geti (gets V (j : Nat)) 1))) (fun s => E.length - s.1) (0, (decide (Y = geti (gets V ((V.length : Int) - 1)) 1 * X))) ⟨Nat.zero_le _, by rcases met with (k | k) | ⟨j, k1, k2⟩ <;> first | contradiction | exact .inl (decide_eq_true k) | exact .inr ⟨j, Nat.zero_le _, k1, k2⟩⟩ ⟨lee rfl (by (repeat (first | exact le_nil | refine le_eq rfl rfl ?_))), by (repeat (first | exact lo_nil | refine lo_dead ?_)), rfl, rfl⟩ ?_
      rintro ⟨i, mt⟩ ⟨i0, hm⟩
      simp only at i0 hm
      by_cases hi : i < E.length
      · obtain ⟨r0, r1, r2⟩ := gets_row hP.er hi
        obtain ⟨v0, v1, v2⟩ := gets_row hP.vr (i := i) (by omega)
        have haj := aj i hi
        have p1 := mul_b (a := geti (gets E (i : Nat)) 1) (b := geti (gets V (i : Nat)) 0) (A := 60) (B := 60) (by omega) (by omega)
        have p2 := mul_b (a := geti (gets E (i : Nat)) 0) (b := geti (gets V (i : Nat)) 1) (A := 60) (B := 60) (by omega) (by omega)
        have p3 := mul_b (a := Y) (b := geti (gets E (i : Nat)) 0 + geti (gets E (i : Nat)) 1) (A := 7200) (B := 120) y0 (by omega)
        have p4 := mul_b (a := X) (b := geti (gets E (i : Nat)) 1 * geti (gets V (i : Nat)) 0 + geti (gets E (i : Nat)) 0 * geti (gets V (i : Nat)) 1) (A := 120) (B := 7200) x0 (by omega)
        cases mt with
        | true =>
          repeat' (first | (apply AOps.nil; try simp only [List.nil_append, List.cons_append, List.set_cons_zero, List.set_cons_succ, List.length_cons, List.length_nil, Nat.reduceAdd, AV.sh, AV.sh1, AV.sh0, AO.sh, List.map_cons, List.map_nil, Nat.zero_add, Nat.add_zero, setAll]) | (apply w_move; exact rfl; exact rfl) | (apply w_assign; exact rfl; exact rfl) | apply AWp.seq | apply AWp.region | ((apply AWp.condP; exact rfl) <;> intro h) | apply AWp.block | apply AWp.ret | apply AWp.exit | apply AWp.skip | (apply AWp.regionQ; kernel_rfl; kernel_rfl) | (apply w_skip; exact rfl) | (apply w_pickT; exact rfl; exact rfl; exact rfl) | (apply w_len; exact rfl; exact rfl; first | exact .ints _ | exact .intss _ | exact .sli rfl | exact .sls rfl | exact .slr rfl | exact .orow rfl | exact .nil) | omega | ((first | apply w_lss | apply w_add | apply w_mul | apply w_idx | apply w_ld); iterate 3 exact rfl) | ((first | apply w_idxs | apply w_lds); iterate 3 exact rfl) | (apply inI_of <;> omega))
          exact ⟨(i + 1, true), ⟨by simp only; omega, .inl rfl⟩, by simp only; omega, ⟨lee rfl (by (repeat (first | exact le_nil | refine le_eq rfl rfl ?_))), by (repeat (first | exact lo_nil | refine lo_dead ?_)), rfl, rfl⟩⟩
        | false =>
          repeat' (first | (apply AOps.nil; try simp only [List.nil_append, List.cons_append, List.set_cons_zero, List.set_cons_succ, List.length_cons, List.length_nil, Nat.reduceAdd, AV.sh, AV.sh1, AV.sh0, AO.sh, List.map_cons, List.map_nil, Nat.zero_add, Nat.add_zero, setAll]) | (apply w_move; exact rfl; exact rfl) | (apply w_assign; exact rfl; exact rfl) | apply AWp.seq | apply AWp.region | ((apply AWp.condP; exact rfl) <;> intro h) | apply AWp.block | apply AWp.ret | apply AWp.exit | apply AWp.skip | (apply AWp.regionQ; kernel_rfl; kernel_rfl) | (apply w_pickF; exact rfl; exact rfl; exact rfl) | (apply w_len; exact rfl; exact rfl; first | exact .ints _ | exact .intss _ | exact .sli rfl | exact .sls rfl | exact .slr rfl | exact .orow rfl | exact .nil) | omega | ((first | apply w_lss | apply w_eql | apply w_add | apply w_mul | apply w_idx | apply w_ld); iterate 3 exact rfl) | ((first | apply w_idxs | apply w_lds); iterate 3 exact rfl) | (apply inI_of <;> omega))
          refine ⟨(i + 1, decide (Y * (geti (gets E (i : Nat)) 0 + geti (gets E (i : Nat)) 1) = X * (geti (gets E (i : Nat)) 1 * geti (gets V (i : Nat)) 0 + geti (gets E (i : Nat)) 0 * geti (gets V (i : Nat)) 1))), ⟨by simp only; omega, ?_⟩, by simp only; omega, ⟨lee rfl (by (repeat (first | exact le_nil | refine le_eq rfl rfl ?_))), by (repeat (first | exact lo_nil | refine lo_dead ?_)), rfl, rfl⟩⟩
          rcases hm with hm | ⟨j, j0, j1, j2⟩
          · cases hm
          · rcases Nat.lt_or_ge i j with hij | hij
            · exact .inr ⟨j, hij, j1, j2⟩
            · obtain rfl : j = i := by omega
              exact .inl (decide_eq_true j2)
      rcases hm with hm | ⟨j, j0, j1, j2⟩
      · subst hm
        repeat' (first | (apply AOps.nil; try simp only [List.nil_append, List.cons_append, List.set_cons_zero, List.set_cons_succ, List.length_cons, List.length_nil, Nat.reduceAdd, AV.sh, AV.sh1, AV.sh0, AO.sh, List.map_cons, List.map_nil, Nat.zero_add, Nat.add_zero, setAll]) | (apply w_move; exact rfl; exact rfl) | (apply w_assign; exact rfl; exact rfl) | apply AWp.seq | apply AWp.region | ((apply AWp.condP; exact rfl) <;> intro h) | apply AWp.block | apply AWp.ret | apply AWp.exit | apply AWp.skip | (apply w_len; exact rfl; exact rfl; first | exact .ints _ | exact .intss _ | exact .sli rfl | exact .sls rfl | exact .slr rfl | exact .orow rfl | exact .nil) | omega | ((apply w_lss); iterate 3 exact rfl))
        all_goals exact .bool Try.results4 rfl rfl
      · exfalso; omega
  · have hx0 := thX_no hT
    rw [hx0] at f1 f2
    repeat' (first | (apply AOps.nil; try simp only [List.nil_append, List.cons_append, List.set_cons_zero, List.set_cons_succ, List.length_cons, List.length_nil, Nat.reduceAdd, AV.sh, AV.sh1, AV.sh0, AO.sh, List.map_cons, List.map_nil, Nat.zero_add, Nat.add_zero, setAll]) | ((apply AOps.splitP; exact rfl; exact rfl) <;> intro h) | (apply w_move; exact rfl; exact rfl) | (apply w_assign; exact rfl; exact rfl) | apply AWp.seq | apply AWp.region | ((apply AWp.condP; exact rfl) <;> intro h) | (apply AWp.condT; exact rfl) | apply AWp.ret | apply AWp.skip | (apply w_skip; exact rfl) | (apply w_pickT; exact rfl; exact rfl; exact rfl) | (apply w_pickF; exact rfl; exact rfl; exact rfl) | (apply w_call (f1); exact rfl; exact rfl; focus ((repeat (first | exact im_nil | refine im_cons rfl (.sls rfl) ?_)); done)) | (apply w_call (f2); exact rfl; exact rfl; focus ((repeat (first | exact im_nil | refine im_cons rfl (.sls rfl) ?_)); done)) | omega | ((first | apply w_eql | apply w_neq | apply w_extv); iterate 3 exact rfl))
    all_goals try contradiction
    all_goals exact .bool Try.results4 rfl (by simp)
end Go.Proofs.Ythlfdhooiekgjaa
