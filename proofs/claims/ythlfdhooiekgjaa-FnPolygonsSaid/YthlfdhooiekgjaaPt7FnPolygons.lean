/-
  Parts of the proof, one behind the other: contracts of functions and plain laws. No condition.
-/
import Derived.Test.YthlfdhooiekgjaaPt6FnPolygons
/-
  The law of polygons. No condition.
-/
namespace Go.Proofs.Ythlfdhooiekgjaa
open Go Go.RowKit
attribute [local irreducible] AWp AOps ResIs Ret1 QOp LOp COp AFnV AFn Imms LeE LeO
set_option maxHeartbeats 1000000
set_option linter.unusedSimpArgs false
set_option linter.unusedVariables false

theorem rw_len {lo : Int} {E : List (List Int)} (h : ∀ e ∈ E, Rw lo e) : ∀ e ∈ E, e.length ≤ 1048576 := fun e he => by have := (h e he).1; omega
set_option maxRecDepth 8000 in
set_option maxHeartbeats 64000000 in
theorem lawPolygons_c (bs : List Int) (hbs : ∀ x ∈ bs, 0 ≤ x ∧ x ≤ 255) : AFnV Try.prog 3 [.ro (byR bs)] (.bool true) := by
  have hb0 : ∀ i, 0 ≤ geti bs i ∧ geti bs i ≤ 255 := fun i => by
    unfold geti
    rw [List.getD_eq_getElem?_getD]
    cases h : bs[i.toNat]? with
    | none => simp
    | some x => exact hbs x (List.mem_of_getElem? h)
  have hbig := big_c bs
  (refine AFnV.start Try.func3 Try.ntmps3 rfl (by kernel_rfl) fun hk => ?_; simp only [Env.start, enumF, List.length_cons, List.length_nil, Nat.reduceAdd, Nat.reduceSub, List.cons_append, List.nil_append])
  by_cases hl : (4096 : Int) < bs.length
  · rw [decide_eq_true hl] at hbig
    repeat' (first | (apply AOps.nil; try simp only [List.nil_append, List.cons_append, List.set_cons_zero, List.set_cons_succ, List.length_cons, List.length_nil, Nat.reduceAdd, AV.sh, AV.sh1, AV.sh0, AO.sh, List.map_cons, List.map_nil, Nat.zero_add, Nat.add_zero, setAll]) | (apply w_move; exact rfl; exact rfl) | (apply w_assign; exact rfl; exact rfl) | apply AWp.seq | apply AWp.region | (apply AWp.condT; exact rfl) | apply AWp.ret | (apply w_call (hbig); exact rfl; exact rfl; focus ((repeat (first | exact im_nil | refine im_cons rfl (.ro _) ?_)); done)))
    all_goals exact .bool Try.results3 rfl rfl
  rw [decide_eq_false hl] at hbig
  have hl2 : bs.length ≤ 1048576 := by omega
  have hd1 := drawNV_c bs hl2 hb0
  have hd2 := drawSV_c bs hl2 hb0
  repeat' (first | (apply AOps.nil; try simp only [List.nil_append, List.cons_append, List.set_cons_zero, List.set_cons_succ, List.length_cons, List.length_nil, Nat.reduceAdd, AV.sh, AV.sh1, AV.sh0, AO.sh, List.map_cons, List.map_nil, Nat.zero_add, Nat.add_zero, setAll]) | (apply w_move; exact rfl; exact rfl) | (apply w_assign; exact rfl; exact rfl) | apply AWp.seq | apply AWp.region | (apply AWp.condF; exact rfl) | apply AWp.skip | (apply w_call (hbig); exact rfl; exact rfl; focus ((repeat (first | exact im_nil | refine im_cons rfl (.ro _) ?_)); done)) | (apply w_callm (hd1); (focus ((repeat (first | exact im_nil | refine im_cons rfl (.ro _) ?_)); done)); rintro r os0 ⟨xss, rfl, rfl, hxl⟩; try simp only [List.nil_append, List.cons_append, List.set_cons_zero, List.set_cons_succ, List.length_cons, List.length_nil, Nat.reduceAdd, AV.sh, AV.sh1, AV.sh0, AO.sh, List.map_cons, List.map_nil, Nat.zero_add, Nat.add_zero, setAll]))
  have q1 := same9_t (nvL xss) (nvL_len xss) (nvL_rows xss)
  have q2 := same9_t (neL xss) (neL_len xss) (neL_rows xss)
  have q3 := same9_t (ebF xss) (ebF_len xss) (ebF_rows xss)
  repeat' (first | (apply AOps.nil; try simp only [List.nil_append, List.cons_append, List.set_cons_zero, List.set_cons_succ, List.length_cons, List.length_nil, Nat.reduceAdd, AV.sh, AV.sh1, AV.sh0, AO.sh, List.map_cons, List.map_nil, Nat.zero_add, Nat.add_zero, setAll]) | ((apply AOps.splitP; exact rfl; exact rfl) <;> intro h) | (apply w_move; exact rfl; exact rfl) | (apply w_assign; exact rfl; exact rfl) | apply AWp.seq | apply AWp.region | ((apply AWp.condP; exact rfl) <;> intro h) | (apply AWp.condT; exact rfl) | (apply AWp.condF; exact rfl) | apply AWp.ret | apply AWp.skip | (apply w_skip; exact rfl) | (apply w_pickT; exact rfl; exact rfl; exact rfl) | (apply w_pickF; exact rfl; exact rfl; exact rfl) | ((apply w_not); iterate 2 exact rfl) | (apply w_callm (implNewtonVertices_c _); (focus ((repeat (first | exact im_nil | refine im_cons rfl (.sls rfl) ?_)); done)); rintro r os0 ⟨rfl, rfl⟩; try simp only [List.nil_append, List.cons_append, List.set_cons_zero, List.set_cons_succ, List.length_cons, List.length_nil, Nat.reduceAdd, AV.sh, AV.sh1, AV.sh0, AO.sh, List.map_cons, List.map_nil, Nat.zero_add, Nat.add_zero, setAll]) | (apply w_callm (specNewtonVertices_c _); (focus ((repeat (first | exact im_nil | refine im_cons rfl (.sls rfl) ?_)); done)); rintro r os0 ⟨rfl, rfl⟩; try simp only [List.nil_append, List.cons_append, List.set_cons_zero, List.set_cons_succ, List.length_cons, List.length_nil, Nat.reduceAdd, AV.sh, AV.sh1, AV.sh0, AO.sh, List.map_cons, List.map_nil, Nat.zero_add, Nat.add_zero, setAll]) | (apply w_call (implIsSupport_c _); exact rfl; exact rfl; focus ((repeat (first | exact im_nil | refine im_cons rfl (.sls rfl) ?_)); done)) | (apply w_call (specIsSupport_c _); exact rfl; exact rfl; focus ((repeat (first | exact im_nil | refine im_cons rfl (.sls rfl) ?_)); done)) | (apply w_callm (implNewtonEdges_c _); (focus ((repeat (first | exact im_nil | refine im_cons rfl (.sls rfl) ?_)); done)); rintro r os0 ⟨rfl, rfl⟩; try simp only [List.nil_append, List.cons_append, List.set_cons_zero, List.set_cons_succ, List.length_cons, List.length_nil, Nat.reduceAdd, AV.sh, AV.sh1, AV.sh0, AO.sh, List.map_cons, List.map_nil, Nat.zero_add, Nat.add_zero, setAll]) | (apply w_callm (specNewtonEdges_c _); (focus ((repeat (first | exact im_nil | refine im_cons rfl (.sls rfl) ?_)); done)); rintro r os0 ⟨rfl, rfl⟩; try simp only [List.nil_append, List.cons_append, List.set_cons_zero, List.set_cons_succ, List.length_cons, List.length_nil, Nat.reduceAdd, AV.sh, AV.sh1, AV.sh0, AO.sh, List.map_cons, List.map_nil, Nat.zero_add, Nat.add_zero, setAll]) | (apply w_callm (implEdgeBranches_c _); (focus ((repeat (first | exact im_nil | refine im_cons rfl (.sls rfl) ?_)); done)); rintro r os0 ⟨rfl, rfl⟩; try simp only [List.nil_append, List.cons_append, List.set_cons_zero, List.set_cons_succ, List.length_cons, List.length_nil, Nat.reduceAdd, AV.sh, AV.sh1, AV.sh0, AO.sh, List.map_cons, List.map_nil, Nat.zero_add, Nat.add_zero, setAll]) | (apply w_callm (specEdgeBranches_c _); (focus ((repeat (first | exact im_nil | refine im_cons rfl (.sls rfl) ?_)); done)); rintro r os0 ⟨rfl, rfl⟩; try simp only [List.nil_append, List.cons_append, List.set_cons_zero, List.set_cons_succ, List.length_cons, List.length_nil, Nat.reduceAdd, AV.sh, AV.sh1, AV.sh0, AO.sh, List.map_cons, List.map_nil, Nat.zero_add, Nat.add_zero, setAll]) | (apply w_call (q1); exact rfl; exact rfl; focus ((repeat (first | exact im_nil | refine im_cons rfl (.sls rfl) ?_)); done)) | (apply w_call (q2); exact rfl; exact rfl; focus ((repeat (first | exact im_nil | refine im_cons rfl (.sls rfl) ?_)); done)) | (apply w_call (q3); exact rfl; exact rfl; focus ((repeat (first | exact im_nil | refine im_cons rfl (.sls rfl) ?_)); done)) | (apply w_callm (hd2); (focus ((repeat (first | exact im_nil | refine im_cons rfl (.ro _) ?_)); done)); rintro r os0 ⟨yss, p, q, rfl, rfl, hyl⟩; try simp only [List.nil_append, List.cons_append, List.set_cons_zero, List.set_cons_succ, List.length_cons, List.length_nil, Nat.reduceAdd, AV.sh, AV.sh1, AV.sh0, AO.sh, List.map_cons, List.map_nil, Nat.zero_add, Nat.add_zero, setAll]) | omega | ((first | apply w_neq | apply w_extv); iterate 3 exact rfl) | ((first | apply w_neqb | apply w_ext); iterate 3 exact rfl))
  all_goals try contradiction
  have s1 := implSupportValue_c yss p q
  have s2 := specSupportValue_c yss p q
  by_cases hS : isSup xss = true
  · obtain ⟨V, E, B, hP⟩ : ∃ V E B, PolyOk xss V E B := ⟨_, _, _, poly_ok hS⟩
    have q4 := same9_t V (by have := hP.vl; omega) (rw_len hP.vr)
    have c4 := implNewtonVertices_c V
    rw [hP.vv, hP.sv] at c4
    have hb20 := below_c bs hl2 hb0 20 (by omega)
    have hlen := hP.len
    have hvl := hP.vl
    rw [hP.v, hP.e, hP.b, hP.s]
    repeat' (first | (apply AOps.nil; try simp only [List.nil_append, List.cons_append, List.set_cons_zero, List.set_cons_succ, List.length_cons, List.length_nil, Nat.reduceAdd, AV.sh, AV.sh1, AV.sh0, AO.sh, List.map_cons, List.map_nil, Nat.zero_add, Nat.add_zero, setAll]) | ((apply AOps.splitP; exact rfl; exact rfl) <;> intro h) | (apply w_move; exact rfl; exact rfl) | (apply w_assign; exact rfl; exact rfl) | apply AWp.seq | apply AWp.region | ((apply AWp.condP; exact rfl) <;> intro h) | (apply AWp.condT; exact rfl) | apply AWp.ret | apply AWp.skip | (apply w_skip; exact rfl) | (apply w_pickT; exact rfl; exact rfl; exact rfl) | (apply w_pickF; exact rfl; exact rfl; exact rfl) | (apply w_len; exact rfl; exact rfl; first | exact .ints _ | exact .intss _ | exact .sli rfl | exact .sls rfl | exact .slr rfl | exact .orow rfl | exact .nil) | ((apply w_not); iterate 2 exact rfl) | (apply w_call (s1); exact rfl; exact rfl; focus ((repeat (first | exact im_nil | refine im_cons rfl (.val _) ?_ | refine im_cons rfl (.sls rfl) ?_)); done)) | (apply w_call (s2); exact rfl; exact rfl; focus ((repeat (first | exact im_nil | refine im_cons rfl (.val _) ?_ | refine im_cons rfl (.sls rfl) ?_)); done)) | (apply w_callm (c4); (focus ((repeat (first | exact im_nil | refine im_cons rfl (.sls rfl) ?_)); done)); rintro r os0 ⟨rfl, rfl⟩; try simp only [List.nil_append, List.cons_append, List.set_cons_zero, List.set_cons_succ, List.length_cons, List.length_nil, Nat.reduceAdd, AV.sh, AV.sh1, AV.sh0, AO.sh, List.map_cons, List.map_nil, Nat.zero_add, Nat.add_zero, setAll]) | (apply w_call (q4); exact rfl; exact rfl; focus ((repeat (first | exact im_nil | refine im_cons rfl (.sls rfl) ?_)); done)) | (apply w_callsog ((roll_c bs hl2 hb0 5015)); exact rfl; exact rfl; (exact rdB_by _); exact rfl; try simp only [List.nil_append, List.cons_append, List.set_cons_zero, List.set_cons_succ, List.length_cons, List.length_nil, Nat.reduceAdd, AV.sh, AV.sh1, AV.sh0, AO.sh, List.map_cons, List.map_nil, Nat.zero_add, Nat.add_zero, setAll]) | (apply w_callso (hb20); exact rfl; exact rfl; exact rfl; exact rfl; (exact rdB_by _); (rintro _ ⟨x, rfl, hx⟩)) | omega | ((first | apply w_neq | apply w_add | apply w_extv); iterate 3 exact rfl) | ((apply w_ext); iterate 3 exact rfl) | (apply inI_of <;> omega))
    all_goals try contradiction
    rename_i xa hxa
    have m := hP.min xa x (by omega) (by omega)
    have c5 := implSupportValue_c xss xa x
    rw [m.2.1, ← m.1] at c5
    have c6 := implSupportValue_c V xa x
    rw [m.2.2] at c6
    generalize svA V xa x = sv at c5 c6
    repeat' (first | (apply AOps.nil; try simp only [List.nil_append, List.cons_append, List.set_cons_zero, List.set_cons_succ, List.length_cons, List.length_nil, Nat.reduceAdd, AV.sh, AV.sh1, AV.sh0, AO.sh, List.map_cons, List.map_nil, Nat.zero_add, Nat.add_zero, setAll]) | ((apply AOps.splitP; exact rfl; exact rfl) <;> intro h) | (apply w_move; exact rfl; exact rfl) | (apply w_assign; exact rfl; exact rfl) | apply AWp.seq | apply AWp.region | ((apply AWp.condP; exact rfl) <;> intro h) | (apply AWp.condT; exact rfl) | apply AWp.block | apply AWp.ret | apply AWp.skip | (apply w_skip; exact rfl) | (apply w_pickT; exact rfl; exact rfl; exact rfl) | (apply w_pickF; exact rfl; exact rfl; exact rfl) | (apply w_call (c5); exact rfl; exact rfl; focus ((repeat (first | exact im_nil | refine im_cons rfl (.val _) ?_ | refine im_cons rfl (.sls rfl) ?_)); done)) | (apply w_call (c6); exact rfl; exact rfl; focus ((repeat (first | exact im_nil | refine im_cons rfl (.val _) ?_ | refine im_cons rfl (.sls rfl) ?_)); done)) | omega | ((first | apply w_neq | apply w_extv); iterate 3 exact rfl))
    all_goals try contradiction
    refine AWp.cut (env' := ⟨307, [(3, .own 0), (4, .own 1), (8, .own 2), (12, .own 3), (32, .i 0), (33, .i 0), (34, .i 0)]⟩) (os' := [.sls 38 2 xss, .sls 38 2 V, .sls 38 2 E, .sls 38 2 B]) ?_ ?_
    · (apply Or.inr; refine ⟨[0, 1, 3, 5], ⟨by decide, fun x hx => Nat.lt_of_lt_of_le ((by decide : ∀ x ∈ ([0, 1, 3, 5] : List Nat), x < 6) x hx) (Nat.le_of_ble_eq_true rfl)⟩, lee rfl ?_, ?_, rfl, rfl⟩; (focus ((repeat (first | exact le_nil | refine le_eq rfl rfl ?_)); done)); (focus ((repeat (first | exact lo_nil | refine lo_eq rfl ?_)); done)))
    refine AWp.turns (Turns.freeze (k := 0) rfl) ?_
    simp only [Env.mp, List.map_cons, List.map_nil, List.set_cons_zero, List.set_cons_succ, AV.frz, AV.frz1, AO.frz, bL_frz, reduceIte, Nat.reduceEqDiff, Nat.zero_ne_one, Nat.one_ne_zero]
    refine AWp.turns (Turns.freeze (k := 1) rfl) ?_
    simp only [Env.mp, List.map_cons, List.map_nil, List.set_cons_zero, List.set_cons_succ, AV.frz, AV.frz1, AO.frz, bL_frz, reduceIte, Nat.reduceEqDiff, Nat.zero_ne_one, Nat.one_ne_zero]
    refine AWp.turns (Turns.freeze (k := 2) rfl) ?_
    simp only [Env.mp, List.map_cons, List.map_nil, List.set_cons_zero, List.set_cons_succ, AV.frz, AV.frz1, AO.frz, bL_frz, reduceIte, Nat.reduceEqDiff, Nat.zero_ne_one, Nat.one_ne_zero]
    refine AWp.turns (Turns.freeze (k := 3) rfl) ?_
    simp only [Env.mp, List.map_cons, List.map_nil, List.set_cons_zero, List.set_cons_succ, AV.frz, AV.frz1, AO.frz, bL_frz, reduceIte, Nat.reduceEqDiff, Nat.zero_ne_one, Nat.one_ne_zero]
    refine AWp.loop (ι := Nat) (fun i => ⟨307, [(3, .intss xss), (4, .intss V), (8, .intss E), (12, .intss B), (32, .i (sS E0 (E.take i))), (33, .i (sS E1 (E.take i))), (34, .i i)]⟩) (fun _ => [.dead, .dead, .dead, .dead]) (fun i => i ≤ E.length) (fun i => E.length - i) 0 (Nat.zero_le _) ⟨lee rfl (by (repeat (first | exact le_nil | refine le_eq rfl rfl ?_))), by (repeat (first | exact lo_nil | refine lo_dead ?_)), rfl, rfl⟩ ?_
    intro i i0
    have hb := sum_in hP.er i
    by_cases hi : i < E.length
    · obtain ⟨t0, t1⟩ := sum_step hi
      obtain ⟨r0, r1, r2⟩ := gets_row hP.er hi
      repeat' (first | (apply AOps.nil; try simp only [List.nil_append, List.cons_append, List.set_cons_zero, List.set_cons_succ, List.length_cons, List.length_nil, Nat.reduceAdd, AV.sh, AV.sh1, AV.sh0, AO.sh, List.map_cons, List.map_nil, Nat.zero_add, Nat.add_zero, setAll]) | (apply w_move; exact rfl; exact rfl) | (apply w_assign; exact rfl; exact rfl) | apply AWp.seq | apply AWp.region | ((apply AWp.condP; exact rfl) <;> intro h) | apply AWp.block | apply AWp.exit | apply AWp.skip | (apply w_len; exact rfl; exact rfl; first | exact .ints _ | exact .intss _ | exact .sli rfl | exact .sls rfl | exact .slr rfl | exact .orow rfl | exact .nil) | omega | ((first | apply w_lss | apply w_add | apply w_idx | apply w_ld); iterate 3 exact rfl) | ((first | apply w_idxs | apply w_lds); iterate 3 exact rfl) | (apply inI_of <;> omega))
      exact ⟨i + 1, by omega, by omega, ⟨lee rfl (by (repeat (first | exact le_nil | refine le_eq rfl rfl ?_ | refine le_eq rfl (congrArg AV.i (by omega)) ?_))), by (repeat (first | exact lo_nil | refine lo_dead ?_)), rfl, rfl⟩⟩
    obtain rfl : i = E.length := by omega
    rw [List.take_length] at hb ⊢
    repeat' (first | (apply AOps.nil; try simp only [List.nil_append, List.cons_append, List.set_cons_zero, List.set_cons_succ, List.length_cons, List.length_nil, Nat.reduceAdd, AV.sh, AV.sh1, AV.sh0, AO.sh, List.map_cons, List.map_nil, Nat.zero_add, Nat.add_zero, setAll]) | (apply w_move; exact rfl; exact rfl) | apply AWp.seq | apply AWp.region | ((apply AWp.condP; exact rfl) <;> intro h) | apply AWp.block | apply AWp.exit | apply AWp.skip | (apply w_len; exact rfl; exact rfl; first | exact .ints _ | exact .intss _ | exact .sli rfl | exact .sls rfl | exact .slr rfl | exact .orow rfl | exact .nil) | omega | ((apply w_lss); iterate 3 exact rfl))
    obtain ⟨z0, z1, z2⟩ : Rw 0 (gets V 0) := gets_row hP.vr (i := 0) (by omega)
    obtain ⟨l0, l1, l2⟩ : Rw 0 (gets V ((V.length : Int) - 1)) := by
      rw [show ((V.length : Int) - 1) = ((V.length - 1 : Nat) : Int) by omega]
      exact gets_row hP.vr (by omega)
    have hs0 := hP.s0
    have hs1 := hP.s1
    repeat' (first | (apply AOps.nil; try simp only [List.nil_append, List.cons_append, List.set_cons_zero, List.set_cons_succ, List.length_cons, List.length_nil, Nat.reduceAdd, AV.sh, AV.sh1, AV.sh0, AO.sh, List.map_cons, List.map_nil, Nat.zero_add, Nat.add_zero, setAll]) | ((apply AOps.splitP; exact rfl; exact rfl) <;> intro h) | (apply w_move; exact rfl; exact rfl) | (apply w_assign; exact rfl; exact rfl) | apply AWp.seq | apply AWp.region | ((apply AWp.condP; exact rfl) <;> intro h) | (apply AWp.condT; exact rfl) | apply AWp.block | apply AWp.ret | apply AWp.skip | (apply AWp.regionQ; kernel_rfl; kernel_rfl) | (apply w_skip; exact rfl) | (apply w_pickT; exact rfl; exact rfl; exact rfl) | (apply w_pickF; exact rfl; exact rfl; exact rfl) | (apply w_len; exact rfl; exact rfl; first | exact .ints _ | exact .intss _ | exact .sli rfl | exact .sls rfl | exact .slr rfl | exact .orow rfl | exact .nil) | omega | ((first | apply w_neq | apply w_add | apply w_sub | apply w_idx | apply w_ld); iterate 3 exact rfl) | ((first | apply w_idxs | apply w_lds); iterate 3 exact rfl) | (apply inI_of <;> omega))
    refine AWp.cut (env' := ⟨307, [(3, .intss xss), (4, .intss V), (8, .intss E), (12, .intss B), (32, .i (sS E0 E)), (33, .i (sS E1 E)), (35, .i 0)]⟩) (os' := []) ?_ ?_
    · (apply Or.inl; refine ⟨lee rfl ?_, ?_, rfl, rfl⟩; (focus ((repeat (first | exact le_nil | refine le_eq rfl rfl ?_)); done)); (focus ((repeat (exact lo_nil)); done)))
    have hbb := hP.bl
    have e00 : sS E0 E = sS E0 E - sS E0 (B.take 0) := by simp [sS]
    have e01 : sS E1 E = sS E1 E - sS E1 (B.take 0) := by simp [sS]
    refine AWp.loop (ι := Nat) (fun i => ⟨307, [(3, .intss xss), (4, .intss V), (8, .intss E), (12, .intss B), (32, .i (sS E0 E - sS E0 (B.take i))), (33, .i (sS E1 E - sS E1 (B.take i))), (35, .i i)]⟩) (fun _ => []) (fun i => i ≤ B.length) (fun i => B.length - i) 0 (Nat.zero_le _) ⟨lee rfl (by (repeat (first | exact le_nil | refine le_eq rfl rfl ?_ | refine le_eq rfl (congrArg AV.i (by omega)) ?_))), by (repeat (exact lo_nil)), rfl, rfl⟩ ?_
    intro i i0
    have hb2 := sum_in hP.br i
    by_cases hi : i < B.length
    · obtain ⟨t0, t1⟩ := sum_step hi
      obtain ⟨r0, r1, r2⟩ := gets_row hP.br hi
      repeat' (first | (apply AOps.nil; try simp only [List.nil_append, List.cons_append, List.set_cons_zero, List.set_cons_succ, List.length_cons, List.length_nil, Nat.reduceAdd, AV.sh, AV.sh1, AV.sh0, AO.sh, List.map_cons, List.map_nil, Nat.zero_add, Nat.add_zero, setAll]) | (apply w_move; exact rfl; exact rfl) | (apply w_assign; exact rfl; exact rfl) | apply AWp.seq | apply AWp.region | ((apply AWp.condP; exact rfl) <;> intro h) | apply AWp.block | apply AWp.exit | apply AWp.skip | (apply w_len; exact rfl; exact rfl; first | exact .ints _ | exact .intss _ | exact .sli rfl | exact .sls rfl | exact .slr rfl | exact .orow rfl | exact .nil) | omega | ((first | apply w_lss | apply w_add | apply w_sub | apply w_idx | apply w_ld); iterate 3 exact rfl) | ((first | apply w_idxs | apply w_lds); iterate 3 exact rfl) | (apply inI_of <;> omega))
      exact ⟨i + 1, by omega, by omega, ⟨lee rfl (by (repeat (first | exact le_nil | refine le_eq rfl rfl ?_ | refine le_eq rfl (congrArg AV.i (by omega)) ?_))), by (repeat (exact lo_nil)), rfl, rfl⟩⟩
    obtain rfl : i = B.length := by omega
    rw [List.take_length, hP.b0, hP.b1] at hb2 ⊢
    have c7 := implIsConvenient_c xss
    rw [hP.cv, hP.s] at c7
    have c8 := implSupportOfEdges_c E
    repeat' (first | (apply AOps.nil; try simp only [List.nil_append, List.cons_append, List.set_cons_zero, List.set_cons_succ, List.length_cons, List.length_nil, Nat.reduceAdd, AV.sh, AV.sh1, AV.sh0, AO.sh, List.map_cons, List.map_nil, Nat.zero_add, Nat.add_zero, setAll]) | ((apply AOps.splitP; exact rfl; exact rfl) <;> intro h) | ((apply AOps.splitN; exact rfl; exact rfl) <;> intro h) | (apply w_move; exact rfl; exact rfl) | (apply w_assign; exact rfl; exact rfl) | apply AWp.seq | apply AWp.region | ((apply AWp.condP; exact rfl) <;> intro h) | (apply AWp.condT; exact rfl) | apply AWp.block | apply AWp.ret | apply AWp.exit | apply AWp.skip | (apply w_skip; exact rfl) | (apply w_pickT; exact rfl; exact rfl; exact rfl) | (apply w_pickF; exact rfl; exact rfl; exact rfl) | (apply w_len; exact rfl; exact rfl; first | exact .ints _ | exact .intss _ | exact .sli rfl | exact .sls rfl | exact .slr rfl | exact .orow rfl | exact .nil) | ((apply w_not); iterate 2 exact rfl) | (apply w_call (c7); exact rfl; exact rfl; focus ((repeat (first | exact im_nil | refine im_cons rfl (.intss _) ?_)); done)) | omega | ((first | apply w_lss | apply w_eql | apply w_neq | apply w_extv); iterate 3 exact rfl))
    · exact .bool Try.results3 rfl (by simp)
    · exact .bool Try.results3 rfl (by simp)
    rename_i hcv
    have hc : conv V = true := decide_eq_true hcv
    obtain ⟨e1, e2⟩ := hP.se hc (by omega)
    rw [e1, e2] at c8
    repeat' (first | (apply AOps.nil; try simp only [List.nil_append, List.cons_append, List.set_cons_zero, List.set_cons_succ, List.length_cons, List.length_nil, Nat.reduceAdd, AV.sh, AV.sh1, AV.sh0, AO.sh, List.map_cons, List.map_nil, Nat.zero_add, Nat.add_zero, setAll]) | ((apply AOps.splitP; exact rfl; exact rfl) <;> intro h) | (apply w_move; exact rfl; exact rfl) | (apply w_assign; exact rfl; exact rfl) | apply AWp.seq | apply AWp.region | apply AWp.ret | (apply w_skip; exact rfl) | (apply w_pickT; exact rfl; exact rfl; exact rfl) | (apply w_pickF; exact rfl; exact rfl; exact rfl) | (apply w_callm (c8); (focus ((repeat (first | exact im_nil | refine im_cons rfl (.intss _) ?_)); done)); rintro r os0 ⟨rfl, rfl⟩; try simp only [List.nil_append, List.cons_append, List.set_cons_zero, List.set_cons_succ, List.length_cons, List.length_nil, Nat.reduceAdd, AV.sh, AV.sh1, AV.sh0, AO.sh, List.map_cons, List.map_nil, Nat.zero_add, Nat.add_zero, setAll]) | (apply w_call (q4); exact rfl; exact rfl; focus ((repeat (first | exact im_nil | refine im_cons rfl (.intss _) ?_ | refine im_cons rfl (.sls rfl) ?_)); done)) | omega | ((first | apply w_eql | apply w_extv); iterate 3 exact rfl) | ((apply w_ext); iterate 3 exact rfl))
    all_goals exact .bool Try.results3 rfl (by simp)
  · obtain ⟨n1, n2⟩ := no_sup hS
    rw [n1, n2]
    repeat' (first | (apply AOps.nil; try simp only [List.nil_append, List.cons_append, List.set_cons_zero, List.set_cons_succ, List.length_cons, List.length_nil, Nat.reduceAdd, AV.sh, AV.sh1, AV.sh0, AO.sh, List.map_cons, List.map_nil, Nat.zero_add, Nat.add_zero, setAll]) | ((apply AOps.splitP; exact rfl; exact rfl) <;> intro h) | (apply w_move; exact rfl; exact rfl) | (apply w_assign; exact rfl; exact rfl) | apply AWp.seq | apply AWp.region | ((apply AWp.condP; exact rfl) <;> intro h) | (apply AWp.condT; exact rfl) | apply AWp.ret | apply AWp.skip | (apply w_skip; exact rfl) | (apply w_pickT; exact rfl; exact rfl; exact rfl) | (apply w_pickF; exact rfl; exact rfl; exact rfl) | (apply w_len; exact rfl; exact rfl; first | exact .ints _ | exact .intss _ | exact .sli rfl | exact .sls rfl | exact .slr rfl | exact .orow rfl | exact .nil) | (apply w_call (s1); exact rfl; exact rfl; focus ((repeat (first | exact im_nil | refine im_cons rfl (.val _) ?_ | refine im_cons rfl (.sls rfl) ?_)); done)) | (apply w_call (s2); exact rfl; exact rfl; focus ((repeat (first | exact im_nil | refine im_cons rfl (.val _) ?_ | refine im_cons rfl (.sls rfl) ?_)); done)) | omega | ((first | apply w_eql | apply w_neq | apply w_extv); iterate 3 exact rfl))
    all_goals try contradiction
    all_goals exact .bool Try.results3 rfl rfl
end Go.Proofs.Ythlfdhooiekgjaa
