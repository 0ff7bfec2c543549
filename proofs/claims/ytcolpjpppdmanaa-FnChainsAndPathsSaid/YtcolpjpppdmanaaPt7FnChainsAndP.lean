/-
  Parts of the proof, one behind the other: contracts of functions and plain laws. No condition.
-/
import Derived.Test.YtcolpjpppdmanaaPt6FnChainsAndP
/-
  The law of chains and paths. No condition.
-/
namespace Go.Proofs.Ytcolpjpppdmanaa
open Go Go.RowKit
attribute [local irreducible] AWp AOps ResIs Ret1 QOp LOp COp AFnV AFn Imms LeE LeO
set_option maxHeartbeats 1000000
set_option linter.unusedSimpArgs false
set_option linter.unusedVariables false

set_option maxRecDepth 8000 in
set_option maxHeartbeats 64000000 in
theorem lawCh_c (bs : List Int) (hbs : ∀ x ∈ bs, 0 ≤ x ∧ x ≤ 255) : AFnV Try.prog 3 [.ro (byR bs)] (.bool true) := by
  have hb0 : ∀ i, 0 ≤ geti bs i ∧ geti bs i ≤ 255 := fun i => by
    unfold geti
    rw [List.getD_eq_getElem?_getD]
    cases h : bs[i.toNat]? with
    | none => simp
    | some x => exact hbs x (List.mem_of_getElem? h)
  have hbig := big_c bs
  (refine AFnV.start Try.func3 Try.ntmps3 rfl (by kernel_rfl) fun hk => ?_; simp only [Env.start, enumF, List.length_cons, List.length_nil, Nat.reduceAdd, Nat.reduceSub, List.cons_append, List.nil_append])
  by_cases hl : (4096 : Int) < bs.length
  · rw [decide_eq_true hl] at hbig
    repeat' (first | (apply AOps.nil; try simp only [List.nil_append, List.cons_append, List.set_cons_zero, List.set_cons_succ, List.length_cons, List.length_nil, Nat.reduceAdd, AV.sh, AV.sh1, AV.sh0, AO.sh, List.map_cons, List.map_nil, Nat.zero_add, Nat.add_zero, setAll]) | (apply w_move; exact rfl; exact rfl) | (apply w_assign; exact rfl; exact rfl) | apply AWp.seq | apply AWp.region | (apply AWp.condT; exact rfl) | apply AWp.ret | (apply w_call (hbig); exact rfl; exact rfl; focus ((repeat (first | exact im_nil | refine im_cons rfl (.ro _) ?_)); done)))
    all_goals exact .bool Try.results3 rfl rfl
  rw [decide_eq_false hl] at hbig
  have hl2 : bs.length ≤ 1048576 := by omega
  have hd1 := drawCF_c bs hl2 hb0
  have hd2 := drawCO_c bs hl2 hb0
  have hd3 := drawPB_c bs hl2 hb0
  have hln := likeInts_t [] (by simp)
  apply Tail.use
  case h =>
    intro ht1
    repeat' (first | (apply AOps.nil; try simp only [List.nil_append, List.cons_append, List.set_cons_zero, List.set_cons_succ, List.length_cons, List.length_nil, Nat.reduceAdd, AV.sh, AV.sh1, AV.sh0, AO.sh, List.map_cons, List.map_nil, Nat.zero_add, Nat.add_zero, setAll]) | (apply w_move; exact rfl; exact rfl) | (apply w_assign; exact rfl; exact rfl) | apply AWp.seq | apply AWp.region | (apply AWp.condF; exact rfl) | apply AWp.skip | (apply w_call (hbig); exact rfl; exact rfl; focus ((repeat (first | exact im_nil | refine im_cons rfl (.ro _) ?_)); done)) | (apply w_callm (hd1); (focus ((repeat (first | exact im_nil | refine im_cons rfl (.ro _) ?_)); done)); rintro r os0 ⟨xs, rfl, rfl, hx⟩; try simp only [List.nil_append, List.cons_append, List.set_cons_zero, List.set_cons_succ, List.length_cons, List.length_nil, Nat.reduceAdd, AV.sh, AV.sh1, AV.sh0, AO.sh, List.map_cons, List.map_nil, Nat.zero_add, Nat.add_zero, setAll]))
    refine AOps.turns (Turns.freezeI (k := 0) rfl) ?_
    simp only [Env.mp, List.map_cons, List.map_nil, List.set_cons_zero, List.set_cons_succ, AV.frzI, AV.frzI1, AO.frzI, reduceIte, Nat.reduceEqDiff, Nat.zero_ne_one, Nat.one_ne_zero]
    refine AOps.cut (env' := ⟨254, [(0, .ro (byR bs)), (3, .ints xs), (40, .ints xs)]⟩) (os' := []) ?_ ?_
    · (apply Or.inl; refine ⟨lee rfl ?_, ?_, rfl, rfl⟩; (focus ((repeat (first | exact le_nil | refine le_eq rfl rfl ?_)); done)); (focus ((repeat (exact lo_nil)); done)))
    have c1 := implCF_c xs
    have c2 := specCF_c xs
    by_cases hok : chOk xs = true ∧ (cf xs).1 ≤ 1000000000000
    · rw [chC_ok hok.1 hok.2] at c1 c2
      obtain ⟨g1, g2⟩ := cf_good hok.1 hok.2
      have hxl := chOk_iff.1 hok.1
      have c3 := implCO_ok _ _ xs g1 g2
      have l1 := likeInts_t xs (by omega)
      have hdet := ch_det (l := xs) (by omega)
      generalize (cf xs).1 = p at *
      generalize (cf xs).2 = q at *
      repeat' (first | (apply AOps.nil; try simp only [List.nil_append, List.cons_append, List.set_cons_zero, List.set_cons_succ, List.length_cons, List.length_nil, Nat.reduceAdd, AV.sh, AV.sh1, AV.sh0, AO.sh, List.map_cons, List.map_nil, Nat.zero_add, Nat.add_zero, setAll]) | ((apply AOps.splitP; exact rfl; exact rfl) <;> intro h) | (apply w_move; exact rfl; exact rfl) | (apply w_assign; exact rfl; exact rfl) | apply AWp.seq | apply AWp.region | ((apply AWp.condP; exact rfl) <;> intro h) | (apply AWp.condT; exact rfl) | apply AWp.block | apply AWp.ret | apply AWp.skip | (apply w_skip; exact rfl) | (apply w_pickT; exact rfl; exact rfl; exact rfl) | (apply w_pickF; exact rfl; exact rfl; exact rfl) | ((apply w_build0); iterate 2 exact rfl) | (apply w_call (c1); exact rfl; exact rfl; focus ((repeat (first | exact im_nil | refine im_cons rfl (.ints _) ?_)); done)) | (apply w_call (c2); exact rfl; exact rfl; focus ((repeat (first | exact im_nil | refine im_cons rfl (.ints _) ?_)); done)) | (apply w_callm (c3); (focus ((repeat (first | exact im_nil | refine im_cons rfl (.val _) ?_)); done)); rintro r os0 ⟨rfl, rfl⟩; try simp only [List.nil_append, List.cons_append, List.set_cons_zero, List.set_cons_succ, List.length_cons, List.length_nil, Nat.reduceAdd, AV.sh, AV.sh1, AV.sh0, AO.sh, List.map_cons, List.map_nil, Nat.zero_add, Nat.add_zero, setAll]) | omega | contradiction | ((first | apply w_eql | apply w_neq | apply w_extv); iterate 3 exact rfl) | ((apply w_ext); iterate 3 exact rfl) | (apply w_alst; iterate 2 exact rfl) | (apply w_stst; iterate 5 exact rfl))
      refine AWp.turns (Turns.nilI (k := 1) (i := 0) 2 rfl rfl) ?_
      refine AWp.turns (Turns.nilF (k := 1) (i := 1) 24 2 rfl rfl) ?_
      refine AWp.cut (env' := ⟨254, [(0, .ro (byR bs)), (3, .ints xs), (4, .i p), (10, .own 0), (11, .i 0), (12, .optr 1 0), (13, .i 0)]⟩) (os' := [.sli 2 xs, .bx 32 [.own 2, .own 3], .sli 2 [], .sls 24 2 []]) ?_ ?_
      · (apply Or.inl; refine ⟨lee rfl ?_, ?_, rfl, rfl⟩; (focus ((repeat (first | exact le_nil | refine le_eq rfl rfl ?_)); done)); (focus ((repeat (first | exact lo_nil | refine lo_eq rfl ?_)); done)))
      refine AWp.loop (ι := Nat) (fun i => ⟨254, [(0, .ro (byR bs)), (3, .ints xs), (4, .i p), (10, .own 0), (11, .i 0), (12, .optr 1 0), (13, .i i)]⟩) (fun i => [.sli 2 xs, .bx 32 [.own 2, .own 3], .sli 2 ((xs.take i).map (- ·)), .sls 24 2 (chE i)]) (fun i => i ≤ xs.length) (fun i => xs.length - i) 0 (Nat.zero_le _) ⟨lee rfl (by (repeat (first | exact le_nil | refine le_eq rfl rfl ?_))), by (repeat (first | exact lo_nil | refine lo_eq rfl ?_)), rfl, rfl⟩ ?_
      intro i i0
      by_cases hi : i < xs.length
      · have hg := ch_get hxl.2.2 hi
        have hnt := neg_take hi
        repeat' (first | (apply AOps.nil; try simp only [List.nil_append, List.cons_append, List.set_cons_zero, List.set_cons_succ, List.length_cons, List.length_nil, Nat.reduceAdd, AV.sh, AV.sh1, AV.sh0, AO.sh, List.map_cons, List.map_nil, Nat.zero_add, Nat.add_zero, setAll]) | (apply w_move; exact rfl; exact rfl) | apply AWp.seq | apply AWp.region | ((apply AWp.condP; exact rfl) <;> intro h) | apply AWp.block | apply AWp.exit | apply AWp.skip | (apply w_len; exact rfl; exact rfl; first | exact .ints _ | exact .intss _ | exact .sli rfl | exact .sls rfl | exact .slr rfl | exact .orow rfl | exact .nil) | omega | ((apply w_lss); iterate 3 exact rfl))
        refine AWp.regionA (by kernel_rfl) (envC := ⟨254, [(0, .ro (byR bs)), (3, .ints xs), (4, .i p), (10, .own 0), (11, .i 0), (12, .optr 1 0), (13, .i i)]⟩) (osC := [.sli 2 xs, .bx 32 [.own 2, .own 3], .sli 2 ((xs.take (i + 1)).map (- ·)), .sls 24 2 (chE i)]) rfl rfl ?_ ?_
        · repeat' (first | (apply AOps.nil; try simp only [List.nil_append, List.cons_append, List.set_cons_zero, List.set_cons_succ, List.length_cons, List.length_nil, Nat.reduceAdd, AV.sh, AV.sh1, AV.sh0, AO.sh, List.map_cons, List.map_nil, Nat.zero_add, Nat.add_zero, setAll]) | (apply w_move; exact rfl; exact rfl) | ((first | apply w_neg | apply w_bs1); iterate 2 exact rfl) | omega | ((first | apply w_idx | apply w_ld | apply w_fa); iterate 3 exact rfl) | (apply w_ldb; iterate 5 exact rfl) | (apply w_app; exact rfl; exact rfl; exact rfl; exact rfl; (exact .sli rfl); rotate_left 1; simp only [Env.mp, List.map_cons, List.map_nil, List.set_cons_zero, List.set_cons_succ, AV.kill, AV.kill1, AO.kill, AV.noRow, AV.noRow1, AO.via, reduceIte, Nat.reduceEqDiff, Nat.reduceLT, Env.up, Nat.zero_ne_one, Nat.one_ne_zero, Nat.reduceAdd, List.cons_append, List.nil_append]; rotate_left 1) | (apply w_stbo; exact rfl; exact rfl; exact rfl; exact rfl; exact rfl; exact True.intro) | apply AllOf.nil | (apply AllOf.cons; exact rfl) | (apply AAny.take; exact rfl; exact rfl; kernel_rfl; kernel_rfl) | (apply AAny.all; exact rfl) | (apply AAny.done; exact rfl) | (apply inI_of <;> omega) | (simp <;> omega))
          all_goals rw [hnt]
          all_goals (apply Or.inl; refine ⟨lee rfl ?_, ?_, rfl, rfl⟩; (focus ((repeat (first | exact le_nil | refine le_eq rfl rfl ?_)); done)); (focus ((repeat (first | exact lo_nil | refine lo_eq rfl ?_)); done)))
        by_cases hi0 : i = 0
        · subst hi0
          repeat' (first | (apply AOps.nil; try simp only [List.nil_append, List.cons_append, List.set_cons_zero, List.set_cons_succ, List.length_cons, List.length_nil, Nat.reduceAdd, AV.sh, AV.sh1, AV.sh0, AO.sh, List.map_cons, List.map_nil, Nat.zero_add, Nat.add_zero, setAll]) | (apply w_move; exact rfl; exact rfl) | (apply w_assign; exact rfl; exact rfl) | apply AWp.seq | apply AWp.region | ((apply AWp.condP; exact rfl) <;> intro h) | apply AWp.skip | ((first | apply w_gtr | apply w_add | apply w_ld | apply w_fa); iterate 3 exact rfl) | omega | (apply inI_of <;> omega))
          exact ⟨1, by omega, by omega, ⟨lee rfl (by (repeat (first | exact le_nil | refine le_eq rfl rfl ?_))), by (repeat (first | exact lo_nil | refine lo_eq rfl ?_)), rfl, rfl⟩⟩
        · have hce := chE_succ (n := i) (by omega)
          have hcl := chE_len i
          repeat' (first | (apply AOps.nil; try simp only [List.nil_append, List.cons_append, List.set_cons_zero, List.set_cons_succ, List.length_cons, List.length_nil, Nat.reduceAdd, AV.sh, AV.sh1, AV.sh0, AO.sh, List.map_cons, List.map_nil, Nat.zero_add, Nat.add_zero, setAll]) | (apply w_move; exact rfl; exact rfl) | (apply w_assign; exact rfl; exact rfl) | apply AWp.seq | apply AWp.region | ((apply AWp.condP; exact rfl) <;> intro h) | apply AWp.skip | ((first | apply w_bsr1 | apply w_gtr | apply w_add | apply w_sub | apply w_ld | apply w_fa | apply w_bs2); iterate 3 exact rfl) | (apply w_appr; exact rfl; exact rfl; exact rfl; exact rfl; exact rfl; exact rfl; exact rfl; rotate_left 1; simp only [Env.mp, List.map_cons, List.map_nil, List.set_cons_zero, List.set_cons_succ, AV.kill, AV.kill1, AO.kill, AV.rin, AV.rin1, AV.noRow, AV.noRow1, AO.via, reduceIte, Nat.reduceEqDiff, Nat.reduceLT, Env.up, Nat.zero_ne_one, Nat.one_ne_zero, Nat.reduceAdd, List.cons_append, List.nil_append]; rotate_left 1) | omega | (apply w_ldb; iterate 5 exact rfl) | (apply w_stbo; exact rfl; exact rfl; exact rfl; exact rfl; exact rfl; exact True.intro) | (apply inI_of <;> omega))
          rw [← hce]
          exact ⟨i + 1, by omega, by omega, ⟨lee rfl (by (repeat (first | exact le_nil | refine le_eq rfl rfl ?_))), by (repeat (first | exact lo_nil | refine lo_eq rfl ?_)), rfl, rfl⟩⟩
      · obtain rfl : i = xs.length := by omega
        rw [List.take_length]
        have cg := implGraphDeterminant_c (xs.map (- ·)) (chE xs.length)
        generalize (gdC (xs.map (- ·)) (chE xs.length)).1 = d at *
        generalize (gdC (xs.map (- ·)) (chE xs.length)).2 = e at *
        by_cases he : e = 0
        · have hdp := hdet he
          repeat' (first | (apply AOps.nil; try simp only [List.nil_append, List.cons_append, List.set_cons_zero, List.set_cons_succ, List.length_cons, List.length_nil, Nat.reduceAdd, AV.sh, AV.sh1, AV.sh0, AO.sh, List.map_cons, List.map_nil, Nat.zero_add, Nat.add_zero, setAll]) | ((apply AOps.splitP; exact rfl; exact rfl) <;> intro h) | (apply w_move; exact rfl; exact rfl) | (apply w_assign; exact rfl; exact rfl) | apply AWp.seq | apply AWp.region | ((apply AWp.condP; exact rfl) <;> intro h) | (apply AWp.condT; exact rfl) | (apply AWp.condF; exact rfl) | apply AWp.block | apply AWp.ret | apply AWp.exit | apply AWp.skip | (apply w_skip; exact rfl) | (apply w_pickT; exact rfl; exact rfl; exact rfl) | (apply w_pickF; exact rfl; exact rfl; exact rfl) | (apply w_len; exact rfl; exact rfl; first | exact .ints _ | exact .intss _ | exact .sli rfl | exact .sls rfl | exact .slr rfl | exact .orow rfl | exact .nil) | ((apply w_not); iterate 2 exact rfl) | (apply w_call (cg); exact rfl; exact rfl; focus ((repeat (first | exact im_nil | refine im_cons rfl (im_agg2 (.sli rfl) (.sls rfl)) ?_)); done)) | (apply w_call (l1); exact rfl; exact rfl; focus ((repeat (first | exact im_nil | refine im_cons rfl (.ints _) ?_ | refine im_cons rfl (.sli rfl) ?_)); done)) | omega | ((first | apply w_lss | apply w_eql | apply w_neq | apply w_extv); iterate 3 exact rfl) | (apply w_ldst; iterate 5 exact rfl))
          refine AOps.cut (env' := ⟨254, [(0, .ro (byR bs)), (123, .ro (byR bs))]⟩) (os' := []) ?_ ?_
          · (apply Or.inl; refine ⟨lee rfl ?_, ?_, rfl, rfl⟩; (focus ((repeat (first | exact le_nil | refine le_eq rfl rfl ?_)); done)); (focus ((repeat (exact lo_nil)); done)))
          · exact ht1.h
        · repeat' (first | (apply AOps.nil; try simp only [List.nil_append, List.cons_append, List.set_cons_zero, List.set_cons_succ, List.length_cons, List.length_nil, Nat.reduceAdd, AV.sh, AV.sh1, AV.sh0, AO.sh, List.map_cons, List.map_nil, Nat.zero_add, Nat.add_zero, setAll]) | ((apply AOps.splitP; exact rfl; exact rfl) <;> intro h) | (apply w_move; exact rfl; exact rfl) | (apply w_assign; exact rfl; exact rfl) | apply AWp.seq | apply AWp.region | ((apply AWp.condP; exact rfl) <;> intro h) | (apply AWp.condT; exact rfl) | (apply AWp.condF; exact rfl) | apply AWp.block | apply AWp.ret | apply AWp.exit | apply AWp.skip | (apply w_skip; exact rfl) | (apply w_pickT; exact rfl; exact rfl; exact rfl) | (apply w_pickF; exact rfl; exact rfl; exact rfl) | (apply w_len; exact rfl; exact rfl; first | exact .ints _ | exact .intss _ | exact .sli rfl | exact .sls rfl | exact .slr rfl | exact .orow rfl | exact .nil) | ((apply w_not); iterate 2 exact rfl) | (apply w_call (cg); exact rfl; exact rfl; focus ((repeat (first | exact im_nil | refine im_cons rfl (im_agg2 (.sli rfl) (.sls rfl)) ?_)); done)) | (apply w_call (l1); exact rfl; exact rfl; focus ((repeat (first | exact im_nil | refine im_cons rfl (.ints _) ?_ | refine im_cons rfl (.sli rfl) ?_)); done)) | omega | ((first | apply w_lss | apply w_eql | apply w_neq | apply w_extv); iterate 3 exact rfl) | (apply w_ldst; iterate 5 exact rfl))
          refine AOps.cut (env' := ⟨254, [(0, .ro (byR bs)), (123, .ro (byR bs))]⟩) (os' := []) ?_ ?_
          · (apply Or.inl; refine ⟨lee rfl ?_, ?_, rfl, rfl⟩; (focus ((repeat (first | exact le_nil | refine le_eq rfl rfl ?_)); done)); (focus ((repeat (exact lo_nil)); done)))
          · exact ht1.h
    · obtain ⟨c, hc⟩ : ∃ c : Int, c ≠ 0 ∧ chC xs = (0, 0, c) := by
        by_cases h : chOk xs = true
        · exact ⟨3, by omega, chC_lim h fun h2 => hok ⟨h, h2⟩⟩
        · exact ⟨1, by omega, chC_bad h⟩
      rw [hc.2] at c1 c2
      have hc0 := hc.1
      repeat' (first | (apply AOps.nil; try simp only [List.nil_append, List.cons_append, List.set_cons_zero, List.set_cons_succ, List.length_cons, List.length_nil, Nat.reduceAdd, AV.sh, AV.sh1, AV.sh0, AO.sh, List.map_cons, List.map_nil, Nat.zero_add, Nat.add_zero, setAll]) | ((apply AOps.splitP; exact rfl; exact rfl) <;> intro h) | (apply w_move; exact rfl; exact rfl) | (apply w_assign; exact rfl; exact rfl) | apply AWp.seq | apply AWp.region | ((apply AWp.condP; exact rfl) <;> intro h) | (apply AWp.condT; exact rfl) | apply AWp.ret | apply AWp.skip | (apply w_skip; exact rfl) | (apply w_pickT; exact rfl; exact rfl; exact rfl) | (apply w_pickF; exact rfl; exact rfl; exact rfl) | (apply w_call (c1); exact rfl; exact rfl; focus ((repeat (first | exact im_nil | refine im_cons rfl (.ints _) ?_)); done)) | (apply w_call (c2); exact rfl; exact rfl; focus ((repeat (first | exact im_nil | refine im_cons rfl (.ints _) ?_)); done)) | omega | ((first | apply w_eql | apply w_neq | apply w_extv); iterate 3 exact rfl))
      refine AOps.cut (env' := ⟨254, [(0, .ro (byR bs)), (123, .ro (byR bs))]⟩) (os' := []) ?_ ?_
      · (apply Or.inl; refine ⟨lee rfl ?_, ?_, rfl, rfl⟩; (focus ((repeat (first | exact le_nil | refine le_eq rfl rfl ?_)); done)); (focus ((repeat (exact lo_nil)); done)))
      · exact ht1.h
  apply Tail.use
  case h =>
    intro ht2
    repeat' (first | (apply AOps.nil; try simp only [List.nil_append, List.cons_append, List.set_cons_zero, List.set_cons_succ, List.length_cons, List.length_nil, Nat.reduceAdd, AV.sh, AV.sh1, AV.sh0, AO.sh, List.map_cons, List.map_nil, Nat.zero_add, Nat.add_zero, setAll]) | (apply w_move; exact rfl; exact rfl) | (apply w_assign; exact rfl; exact rfl) | apply AWp.seq | apply AWp.region | (apply w_callm (hd2); (focus ((repeat (first | exact im_nil | refine im_cons rfl (.ro _) ?_)); done)); rintro r os0 ⟨p, q, rfl, rfl⟩; try simp only [List.nil_append, List.cons_append, List.set_cons_zero, List.set_cons_succ, List.length_cons, List.length_nil, Nat.reduceAdd, AV.sh, AV.sh1, AV.sh0, AO.sh, List.map_cons, List.map_nil, Nat.zero_add, Nat.add_zero, setAll]) | ((apply w_extv); iterate 3 exact rfl))
    by_cases hcb : coBad p q
    · have i1 := implCO_bad p q hcb
      have s1 := specCO_bad p q hcb
      repeat' (first | (apply AOps.nil; try simp only [List.nil_append, List.cons_append, List.set_cons_zero, List.set_cons_succ, List.length_cons, List.length_nil, Nat.reduceAdd, AV.sh, AV.sh1, AV.sh0, AO.sh, List.map_cons, List.map_nil, Nat.zero_add, Nat.add_zero, setAll]) | ((apply AOps.splitP; exact rfl; exact rfl) <;> intro h) | (apply w_move; exact rfl; exact rfl) | (apply w_assign; exact rfl; exact rfl) | apply AWp.seq | apply AWp.region | ((apply AWp.condP; exact rfl) <;> intro h) | (apply AWp.condT; exact rfl) | (apply AWp.condF; exact rfl) | apply AWp.ret | apply AWp.skip | (apply w_skip; exact rfl) | (apply w_pickT; exact rfl; exact rfl; exact rfl) | (apply w_pickF; exact rfl; exact rfl; exact rfl) | ((apply w_not); iterate 2 exact rfl) | (apply w_call (i1); exact rfl; exact rfl; focus ((repeat (first | exact im_nil | refine im_cons rfl (.val _) ?_)); done)) | (apply w_call (s1); exact rfl; exact rfl; focus ((repeat (first | exact im_nil | refine im_cons rfl (.val _) ?_)); done)) | (apply w_call (hln); exact rfl; exact rfl; focus ((repeat (first | exact im_nil | refine im_cons rfl (.nil) ?_)); done)) | omega | ((first | apply w_eql | apply w_neq | apply w_extv); iterate 3 exact rfl))
      refine AOps.cut (env' := ⟨254, [(0, .ro (byR bs)), (169, .ro (byR bs))]⟩) (os' := []) ?_ ?_
      · (apply Or.inl; refine ⟨lee rfl ?_, ?_, rfl, rfl⟩; (focus ((repeat (first | exact le_nil | refine le_eq rfl rfl ?_)); done)); (focus ((repeat (exact lo_nil)); done)))
      · exact ht2.h
    · cases hco : co 30 p q with
      | none =>
        have i1 := implCO_lim p q hcb hco
        have s1 := specCO_lim p q hcb hco
        repeat' (first | (apply AOps.nil; try simp only [List.nil_append, List.cons_append, List.set_cons_zero, List.set_cons_succ, List.length_cons, List.length_nil, Nat.reduceAdd, AV.sh, AV.sh1, AV.sh0, AO.sh, List.map_cons, List.map_nil, Nat.zero_add, Nat.add_zero, setAll]) | ((apply AOps.splitP; exact rfl; exact rfl) <;> intro h) | (apply w_move; exact rfl; exact rfl) | (apply w_assign; exact rfl; exact rfl) | apply AWp.seq | apply AWp.region | ((apply AWp.condP; exact rfl) <;> intro h) | (apply AWp.condT; exact rfl) | (apply AWp.condF; exact rfl) | apply AWp.ret | apply AWp.skip | (apply w_skip; exact rfl) | (apply w_pickT; exact rfl; exact rfl; exact rfl) | (apply w_pickF; exact rfl; exact rfl; exact rfl) | ((apply w_not); iterate 2 exact rfl) | (apply w_call (i1); exact rfl; exact rfl; focus ((repeat (first | exact im_nil | refine im_cons rfl (.val _) ?_)); done)) | (apply w_call (s1); exact rfl; exact rfl; focus ((repeat (first | exact im_nil | refine im_cons rfl (.val _) ?_)); done)) | (apply w_call (hln); exact rfl; exact rfl; focus ((repeat (first | exact im_nil | refine im_cons rfl (.nil) ?_)); done)) | omega | ((first | apply w_eql | apply w_neq | apply w_extv); iterate 3 exact rfl))
        refine AOps.cut (env' := ⟨254, [(0, .ro (byR bs)), (169, .ro (byR bs))]⟩) (os' := []) ?_ ?_
        · (apply Or.inl; refine ⟨lee rfl ?_, ?_, rfl, rfl⟩; (focus ((repeat (first | exact le_nil | refine le_eq rfl rfl ?_)); done)); (focus ((repeat (exact lo_nil)); done)))
        · exact ht2.h
      | some l =>
        have i1 := implCO_ok p q l hcb hco
        have s1 := specCO_ok p q l hcb hco
        obtain ⟨hcc, hll⟩ := co_good hcb hco
        have l1 := likeInts_t l (by omega)
        have c1 := implCF_c l
        rw [hcc] at c1
        repeat' (first | (apply AOps.nil; try simp only [List.nil_append, List.cons_append, List.set_cons_zero, List.set_cons_succ, List.length_cons, List.length_nil, Nat.reduceAdd, AV.sh, AV.sh1, AV.sh0, AO.sh, List.map_cons, List.map_nil, Nat.zero_add, Nat.add_zero, setAll]) | ((apply AOps.splitP; exact rfl; exact rfl) <;> intro h) | (apply w_move; exact rfl; exact rfl) | (apply w_assign; exact rfl; exact rfl) | apply AWp.seq | apply AWp.region | ((apply AWp.condP; exact rfl) <;> intro h) | (apply AWp.condT; exact rfl) | (apply AWp.condF; exact rfl) | apply AWp.ret | apply AWp.skip | (apply w_skip; exact rfl) | (apply w_pickT; exact rfl; exact rfl; exact rfl) | (apply w_pickF; exact rfl; exact rfl; exact rfl) | ((apply w_not); iterate 2 exact rfl) | (apply w_callm (i1); (focus ((repeat (first | exact im_nil | refine im_cons rfl (.val _) ?_)); done)); rintro r os0 ⟨rfl, rfl⟩; try simp only [List.nil_append, List.cons_append, List.set_cons_zero, List.set_cons_succ, List.length_cons, List.length_nil, Nat.reduceAdd, AV.sh, AV.sh1, AV.sh0, AO.sh, List.map_cons, List.map_nil, Nat.zero_add, Nat.add_zero, setAll]) | (apply w_callm (s1); (focus ((repeat (first | exact im_nil | refine im_cons rfl (.val _) ?_)); done)); rintro r os0 ⟨rfl, rfl⟩; try simp only [List.nil_append, List.cons_append, List.set_cons_zero, List.set_cons_succ, List.length_cons, List.length_nil, Nat.reduceAdd, AV.sh, AV.sh1, AV.sh0, AO.sh, List.map_cons, List.map_nil, Nat.zero_add, Nat.add_zero, setAll]) | (apply w_call (l1); exact rfl; exact rfl; focus ((repeat (first | exact im_nil | refine im_cons rfl (.sli rfl) ?_)); done)) | (apply w_call (c1); exact rfl; exact rfl; focus ((repeat (first | exact im_nil | refine im_cons rfl (.sli rfl) ?_)); done)) | omega | contradiction | ((first | apply w_eql | apply w_neq | apply w_extv); iterate 3 exact rfl) | ((apply w_ext); iterate 3 exact rfl))
        refine AOps.cut (env' := ⟨254, [(0, .ro (byR bs)), (169, .ro (byR bs))]⟩) (os' := []) ?_ ?_
        · (apply Or.inl; refine ⟨lee rfl ?_, ?_, rfl, rfl⟩; (focus ((repeat (first | exact le_nil | refine le_eq rfl rfl ?_)); done)); (focus ((repeat (exact lo_nil)); done)))
        · exact ht2.h
  repeat' (first | (apply w_move; exact rfl; exact rfl) | (apply w_callm (hd3); (focus ((repeat (first | exact im_nil | refine im_cons rfl (.ro _) ?_)); done)); rintro r os0 ⟨W, E, g, i, k, rfl, hr, rfl, hw1, hw2⟩; try simp only [List.nil_append, List.cons_append, List.set_cons_zero, List.set_cons_succ, List.length_cons, List.length_nil, Nat.reduceAdd, AV.sh, AV.sh1, AV.sh0, AO.sh, List.map_cons, List.map_nil, Nat.zero_add, Nat.add_zero, setAll]) | ((apply w_ext); iterate 3 exact rfl) | (apply w_alst; iterate 2 exact rfl))
  obtain ⟨X, hXl, hX⟩ : ∃ X : List Int, X.length ≤ 40 ∧ ((g = .agg [.own 0, .own 1] ∧ X = W) ∨ (g = .agg [.osub 0 1 (W.length - 1), .own 1] ∧ X = (W.drop 1).take (W.length - 1))) := by
    rcases hr with h | h
    · exact ⟨W, hw2, .inl ⟨h, rfl⟩⟩
    · exact ⟨_, by rw [List.length_take]; omega, .inr ⟨h, rfl⟩⟩
  apply Tail.use
  case h =>
    intro ht
    rcases hX with ⟨rfl, hX⟩ | ⟨rfl, hX⟩
    · try simp only [List.nil_append, List.cons_append, List.set_cons_zero, List.set_cons_succ, List.length_cons, List.length_nil, Nat.reduceAdd, AV.sh, AV.sh1, AV.sh0, AO.sh, List.map_cons, List.map_nil, Nat.zero_add, Nat.add_zero, setAll]
      repeat' (first | (apply AOps.nil; try simp only [List.nil_append, List.cons_append, List.set_cons_zero, List.set_cons_succ, List.length_cons, List.length_nil, Nat.reduceAdd, AV.sh, AV.sh1, AV.sh0, AO.sh, List.map_cons, List.map_nil, Nat.zero_add, Nat.add_zero, setAll]) | (apply w_move; exact rfl; exact rfl) | (apply w_assign; exact rfl; exact rfl) | apply AWp.seq | apply AWp.region | (apply w_ldst; iterate 5 exact rfl) | (apply w_stst; iterate 5 exact rfl))
      refine AOps.cut (env' := ⟨254, [(25, .optr 2 0), (26, .i i), (27, .i k), (175, .agg [.own 0, .own 1]), (176, .i i), (177, .i k)]⟩) (os' := [.sli 2 W, .sls 24 2 E, .bx 32 [.own 0, .own 1]]) ?_ ?_
      · (apply Or.inl; refine ⟨lee rfl ?_, ?_, rfl, rfl⟩; (focus ((repeat (first | exact le_nil | refine le_eq rfl rfl ?_)); done)); (focus ((repeat (first | exact lo_nil | refine lo_eq rfl ?_)); done)))
      refine AOps.turns (Turns.freezeI (k := 0) rfl) ?_
      simp only [Env.mp, List.map_cons, List.map_nil, List.set_cons_zero, List.set_cons_succ, AV.frzI, AV.frzI1, AO.frzI, reduceIte, Nat.reduceEqDiff, Nat.zero_ne_one, Nat.one_ne_zero]
      refine AOps.turns (Turns.freeze (k := 1) rfl) ?_
      simp only [Env.mp, List.map_cons, List.map_nil, List.set_cons_zero, List.set_cons_succ, AV.frz, AV.frz1, AO.frz, bL_frz, reduceIte, Nat.reduceEqDiff, Nat.zero_ne_one, Nat.one_ne_zero]
      rw [← hX]
      refine AOps.cut (env' := ⟨254, [(25, .optr 0 0), (26, .i i), (27, .i k), (175, .agg [.ints X, .intss E]), (176, .i i), (177, .i k)]⟩) (os' := [.bx 32 [.ints X, .intss E]]) ?_ ?_
      · (apply Or.inr; refine ⟨[2], ⟨by decide, fun x hx => Nat.lt_of_lt_of_le ((by decide : ∀ x ∈ ([2] : List Nat), x < 3) x hx) (Nat.le_of_ble_eq_true rfl)⟩, lee rfl ?_, ?_, rfl, rfl⟩; (focus ((repeat (first | exact le_nil | refine le_eq rfl rfl ?_)); done)); (focus ((repeat (first | exact lo_nil | refine lo_eq rfl ?_)); done)))
      · exact ht.h
    · try simp only [List.nil_append, List.cons_append, List.set_cons_zero, List.set_cons_succ, List.length_cons, List.length_nil, Nat.reduceAdd, AV.sh, AV.sh1, AV.sh0, AO.sh, List.map_cons, List.map_nil, Nat.zero_add, Nat.add_zero, setAll]
      have hw : 1 + (W.length - 1) ≤ W.length := by omega
      repeat' (first | (apply AOps.nil; try simp only [List.nil_append, List.cons_append, List.set_cons_zero, List.set_cons_succ, List.length_cons, List.length_nil, Nat.reduceAdd, AV.sh, AV.sh1, AV.sh0, AO.sh, List.map_cons, List.map_nil, Nat.zero_add, Nat.add_zero, setAll]) | (apply w_move; exact rfl; exact rfl) | (apply w_assign; exact rfl; exact rfl) | apply AWp.seq | apply AWp.region | (apply w_ldst; iterate 5 exact rfl) | (apply w_stst; iterate 5 exact rfl))
      refine AOps.cut (env' := ⟨254, [(25, .optr 2 0), (26, .i i), (27, .i k), (175, .agg [.osub 0 1 (W.length - 1), .own 1]), (176, .i i), (177, .i k)]⟩) (os' := [.sli 2 W, .sls 24 2 E, .bx 32 [.osub 0 1 (W.length - 1), .own 1]]) ?_ ?_
      · (apply Or.inl; refine ⟨lee rfl ?_, ?_, rfl, rfl⟩; (focus ((repeat (first | exact le_nil | refine le_eq rfl rfl ?_)); done)); (focus ((repeat (first | exact lo_nil | refine lo_eq rfl ?_)); done)))
      refine AOps.turns (Turns.freezeI (k := 0) rfl) ?_
      simp only [Env.mp, List.map_cons, List.map_nil, List.set_cons_zero, List.set_cons_succ, AV.frzI, AV.frzI1, AO.frzI, reduceIte, Nat.reduceEqDiff, Nat.zero_ne_one, Nat.one_ne_zero]
      simp only [hw, if_true]
      refine AOps.turns (Turns.freeze (k := 1) rfl) ?_
      simp only [Env.mp, List.map_cons, List.map_nil, List.set_cons_zero, List.set_cons_succ, AV.frz, AV.frz1, AO.frz, bL_frz, reduceIte, Nat.reduceEqDiff, Nat.zero_ne_one, Nat.one_ne_zero]
      rw [← hX]
      refine AOps.cut (env' := ⟨254, [(25, .optr 0 0), (26, .i i), (27, .i k), (175, .agg [.ints X, .intss E]), (176, .i i), (177, .i k)]⟩) (os' := [.bx 32 [.ints X, .intss E]]) ?_ ?_
      · (apply Or.inr; refine ⟨[2], ⟨by decide, fun x hx => Nat.lt_of_lt_of_le ((by decide : ∀ x ∈ ([2] : List Nat), x < 3) x hx) (Nat.le_of_ble_eq_true rfl)⟩, lee rfl ?_, ?_, rfl, rfl⟩; (focus ((repeat (first | exact le_nil | refine le_eq rfl rfl ?_)); done)); (focus ((repeat (first | exact lo_nil | refine lo_eq rfl ?_)); done)))
      · exact ht.h
  clear hX hr hw1 hw2
  by_cases hgood : ∃ l, gok X E = true ∧ (0 ≤ i ∧ i < X.length) ∧ (0 ≤ k ∧ k < X.length) ∧ pf (nearL E) k X.length i (-1) = some l
  · obtain ⟨l, hv, hi, hk, hpf⟩ := hgood
    have hF := (gok_iff.1 hv).gr.fo.fst
    have i1 := implPB_ok X E i k l hv hi hk hpf
    have s1 := specPB_ok X E i k l hv hi hk hpf
    have i2 := implPB_ok X E k i l.reverse hv hk hi (pf_rev hF hk hi hpf)
    obtain ⟨e1, e2, e3⟩ := pf_ends hpf
    have hll := (pf_rw hpf).2.2
    have l1 := likeInts_t l (by omega)
    have hrl : l.reverse.length = l.length := List.length_reverse
    have hra := fun a => rev_at (l := l) (a := a)
    generalize l.reverse = R at *
    repeat' (first | (apply AOps.nil; try simp only [List.nil_append, List.cons_append, List.set_cons_zero, List.set_cons_succ, List.length_cons, List.length_nil, Nat.reduceAdd, AV.sh, AV.sh1, AV.sh0, AO.sh, List.map_cons, List.map_nil, Nat.zero_add, Nat.add_zero, setAll]) | ((apply AOps.splitP; exact rfl; exact rfl) <;> intro h) | (apply w_move; exact rfl; exact rfl) | (apply w_assign; exact rfl; exact rfl) | apply AWp.seq | apply AWp.region | ((apply AWp.condP; exact rfl) <;> intro h) | (apply AWp.condT; exact rfl) | (apply AWp.condF; exact rfl) | apply AWp.block | apply AWp.ret | apply AWp.skip | (apply w_skip; exact rfl) | (apply w_pickT; exact rfl; exact rfl; exact rfl) | (apply w_pickF; exact rfl; exact rfl; exact rfl) | (apply w_len; exact rfl; exact rfl; first | exact .ints _ | exact .intss _ | exact .sli rfl | exact .sls rfl | exact .slr rfl | exact .orow rfl | exact .nil) | ((apply w_not); iterate 2 exact rfl) | (apply w_callm (i1); (focus ((repeat (first | exact im_nil | refine im_cons rfl (.val _) ?_ | refine im_cons rfl (im_agg2 (.ints _) (.intss _)) ?_)); done)); rintro r os0 ⟨rfl, rfl⟩; try simp only [List.nil_append, List.cons_append, List.set_cons_zero, List.set_cons_succ, List.length_cons, List.length_nil, Nat.reduceAdd, AV.sh, AV.sh1, AV.sh0, AO.sh, List.map_cons, List.map_nil, Nat.zero_add, Nat.add_zero, setAll]) | (apply w_callm (s1); (focus ((repeat (first | exact im_nil | refine im_cons rfl (.val _) ?_ | refine im_cons rfl (im_agg2 (.ints _) (.intss _)) ?_)); done)); rintro r os0 ⟨rfl, rfl⟩; try simp only [List.nil_append, List.cons_append, List.set_cons_zero, List.set_cons_succ, List.length_cons, List.length_nil, Nat.reduceAdd, AV.sh, AV.sh1, AV.sh0, AO.sh, List.map_cons, List.map_nil, Nat.zero_add, Nat.add_zero, setAll]) | (apply w_callm (i2); (focus ((repeat (first | exact im_nil | refine im_cons rfl (.val _) ?_ | refine im_cons rfl (im_agg2 (.ints _) (.intss _)) ?_)); done)); rintro r os0 ⟨rfl, rfl⟩; try simp only [List.nil_append, List.cons_append, List.set_cons_zero, List.set_cons_succ, List.length_cons, List.length_nil, Nat.reduceAdd, AV.sh, AV.sh1, AV.sh0, AO.sh, List.map_cons, List.map_nil, Nat.zero_add, Nat.add_zero, setAll]) | (apply w_call (l1); exact rfl; exact rfl; focus ((repeat (first | exact im_nil | refine im_cons rfl (.sli rfl) ?_)); done)) | omega | contradiction | ((first | apply w_neq | apply w_sub | apply w_idx | apply w_ld | apply w_extv); iterate 3 exact rfl) | ((first | apply w_idxs | apply w_lds | apply w_ext); iterate 3 exact rfl) | (apply w_idxo; exact rfl; exact rfl; (exact .sli rfl); exact rfl) | (apply w_ldo; iterate 4 exact rfl) | (apply w_ldst; iterate 5 exact rfl) | (apply inI_of <;> omega))
    refine AWp.cut (env' := ⟨254, [(28, .own 0), (32, .own 1), (34, .i 0)]⟩) (os' := [.sli 2 l, .sli 2 R]) ?_ ?_
    · (apply Or.inr; refine ⟨[1, 3], ⟨by decide, fun x hx => Nat.lt_of_lt_of_le ((by decide : ∀ x ∈ ([1, 3] : List Nat), x < 4) x hx) (Nat.le_of_ble_eq_true rfl)⟩, lee rfl ?_, ?_, rfl, rfl⟩; (focus ((repeat (first | exact le_nil | refine le_eq rfl rfl ?_)); done)); (focus ((repeat (first | exact lo_nil | refine lo_eq rfl ?_)); done)))
    refine AWp.loop (ι := Nat) (fun a => ⟨254, [(28, .own 0), (32, .own 1), (34, .i a)]⟩) (fun _ => [.sli 2 l, .sli 2 R]) (fun a => a ≤ l.length) (fun a => l.length - a) 0 (Nat.zero_le _) ⟨lee rfl (by (repeat (first | exact le_nil | refine le_eq rfl rfl ?_))), by (repeat (first | exact lo_nil | refine lo_eq rfl ?_)), rfl, rfl⟩ ?_
    intro a a0
    by_cases ha : a < l.length
    · have hra2 : geti R (((l.length : Int) - 1 - a).toNat : Nat) = geti l ((a : Int).toNat : Nat) := hra a ha
      repeat' (first | (apply AOps.nil; try simp only [List.nil_append, List.cons_append, List.set_cons_zero, List.set_cons_succ, List.length_cons, List.length_nil, Nat.reduceAdd, AV.sh, AV.sh1, AV.sh0, AO.sh, List.map_cons, List.map_nil, Nat.zero_add, Nat.add_zero, setAll]) | (apply w_move; exact rfl; exact rfl) | (apply w_assign; exact rfl; exact rfl) | apply AWp.seq | apply AWp.region | ((apply AWp.condP; exact rfl) <;> intro h) | apply AWp.block | apply AWp.ret | apply AWp.exit | apply AWp.skip | (apply AWp.regionQ; kernel_rfl; kernel_rfl) | (apply w_len; exact rfl; exact rfl; first | exact .ints _ | exact .intss _ | exact .sli rfl | exact .sls rfl | exact .slr rfl | exact .orow rfl | exact .nil) | omega | ((first | apply w_lss | apply w_neq | apply w_add | apply w_sub | apply w_idx | apply w_ld); iterate 3 exact rfl) | (apply w_idxo; exact rfl; exact rfl; (exact .sli rfl); exact rfl) | (apply w_ldo; iterate 4 exact rfl) | (apply inI_of <;> omega))
      exact ⟨a + 1, by omega, by omega, ⟨lee rfl (by (repeat (first | exact le_nil | refine le_eq rfl rfl ?_))), by (repeat (first | exact lo_nil | refine lo_eq rfl ?_)), rfl, rfl⟩⟩
    · repeat' (first | (apply AOps.nil; try simp only [List.nil_append, List.cons_append, List.set_cons_zero, List.set_cons_succ, List.length_cons, List.length_nil, Nat.reduceAdd, AV.sh, AV.sh1, AV.sh0, AO.sh, List.map_cons, List.map_nil, Nat.zero_add, Nat.add_zero, setAll]) | (apply w_move; exact rfl; exact rfl) | (apply w_assign; exact rfl; exact rfl) | apply AWp.seq | apply AWp.region | ((apply AWp.condP; exact rfl) <;> intro h) | apply AWp.block | apply AWp.ret | apply AWp.exit | apply AWp.skip | (apply w_len; exact rfl; exact rfl; first | exact .ints _ | exact .intss _ | exact .sli rfl | exact .sls rfl | exact .slr rfl | exact .orow rfl | exact .nil) | omega | ((apply w_lss); iterate 3 exact rfl))
      all_goals exact .bool Try.results3 rfl rfl
  · obtain ⟨c, hc, i1, s1⟩ : ∃ c : Int, c ≠ 0 ∧ AFnV Try.prog 14 [.agg [.ints X, .intss E], .i i, .i k] (.tuple #[.slice none 0 0, .int .i64 c]) ∧ AFnV Try.prog 15 [.agg [.ints X, .intss E], .i i, .i k] (.tuple #[.slice none 0 0, .int .i64 c]) := by
      cases hv : gok X E with
      | false => exact ⟨1, by omega, implPB_bad X E i k hv, specPB_bad X E i k hv⟩
      | true =>
        by_cases hr : (0 ≤ i ∧ i < X.length) ∧ (0 ≤ k ∧ k < X.length)
        · cases hpf : pf (nearL E) k X.length i (-1) with
          | none => exact ⟨5, by omega, implPB_none X E i k hv hr.1 hr.2 hpf, specPB_none X E i k hv hr.1 hr.2 hpf⟩
          | some l => exact absurd ⟨l, hv, hr.1, hr.2, hpf⟩ hgood
        · exact ⟨2, by omega, implPB_rng X E i k hv hr, specPB_rng X E i k hv hr⟩
    repeat' (first | (apply AOps.nil; try simp only [List.nil_append, List.cons_append, List.set_cons_zero, List.set_cons_succ, List.length_cons, List.length_nil, Nat.reduceAdd, AV.sh, AV.sh1, AV.sh0, AO.sh, List.map_cons, List.map_nil, Nat.zero_add, Nat.add_zero, setAll]) | ((apply AOps.splitP; exact rfl; exact rfl) <;> intro h) | (apply w_move; exact rfl; exact rfl) | (apply w_assign; exact rfl; exact rfl) | apply AWp.seq | apply AWp.region | ((apply AWp.condP; exact rfl) <;> intro h) | (apply AWp.condT; exact rfl) | (apply AWp.condF; exact rfl) | apply AWp.ret | apply AWp.skip | (apply w_skip; exact rfl) | (apply w_pickT; exact rfl; exact rfl; exact rfl) | (apply w_pickF; exact rfl; exact rfl; exact rfl) | (apply w_len; exact rfl; exact rfl; first | exact .ints _ | exact .intss _ | exact .sli rfl | exact .sls rfl | exact .slr rfl | exact .orow rfl | exact .nil) | ((apply w_not); iterate 2 exact rfl) | (apply w_call (i1); exact rfl; exact rfl; focus ((repeat (first | exact im_nil | refine im_cons rfl (.val _) ?_ | refine im_cons rfl (im_agg2 (.ints _) (.intss _)) ?_)); done)) | (apply w_call (s1); exact rfl; exact rfl; focus ((repeat (first | exact im_nil | refine im_cons rfl (.val _) ?_ | refine im_cons rfl (im_agg2 (.ints _) (.intss _)) ?_)); done)) | (apply w_call (hln); exact rfl; exact rfl; focus ((repeat (first | exact im_nil | refine im_cons rfl (.nil) ?_)); done)) | omega | ((first | apply w_eql | apply w_neq | apply w_extv); iterate 3 exact rfl) | (apply w_ldst; iterate 5 exact rfl))
    all_goals exact .bool Try.results3 rfl rfl
end Go.Proofs.Ytcolpjpppdmanaa
