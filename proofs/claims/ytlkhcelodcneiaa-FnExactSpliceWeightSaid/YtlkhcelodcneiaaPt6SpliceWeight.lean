/-
  Parts of the proof, one behind the other: contracts of functions and plain laws. No condition.
-/
import Derived.Laws.Bits64b
import Derived.Test.YtlkhcelodcneiaaPt5SpliceWeight
/-
  The determinant of some vertices, walked: the reference. Condition: a forest.
-/
namespace Go.Proofs.Ytlkhcelodcneiaa
open Go Go.RowKit
attribute [local irreducible] AWp AOps ResIs Ret1 QOp LOp COp AFnV AFn Imms LeE LeO
set_option maxHeartbeats 1000000
set_option linter.unusedSimpArgs false
set_option linter.unusedVariables false

theorem l11Det_g (W : List Int) (E : List (List Int)) (h : GrF W E) : AFnV Try.prog 42 [.agg [.ints W, .intss E]] (.tuple #[.int .i64 (if (gdV W E).2 = true then (gdV W E).1 else 0), .bool (gdV W E).2]) := by
  by_cases hl : bdOk W.length (nearL E) W
  · rw [gdV_ok h hl]; exact l11Det_ok W E h hl
  · rw [gdV_lim h hl]
    exact l11Det_lim W E h hl
set_option maxHeartbeats 16000000 in
theorem l13Det_c (W : List Int) (E : List (List Int)) (bs : List Bool) (hG : GrF W E) (hb : bs.length = W.length) (h0 : 0 < (subW W (bF bs)).length) :
    AFnV Try.prog 28 [.agg [.ints W, .intss E], .ro (blR bs)] (.tuple #[.int .i64 (if (gdV (subW W (bF bs)) (subE E (bF bs))).2 = true then (gdV (subW W (bF bs)) (subE E (bF bs))).1 else 0), .bool (gdV (subW W (bF bs)) (subE E (bF bs))).2]) := by
  have hn := hG.n
  have hel := hG.e
  have hd := l11Det_g _ _ (sub_gr (bF bs) hG h0)
  generalize (if (gdV (subW W (bF bs)) (subE E (bF bs))).2 = true then (gdV (subW W (bF bs)) (subE E (bF bs))).1 else 0) = dv at *
  generalize (gdV (subW W (bF bs)) (subE E (bF bs))).2 = db at *
  (refine AFnV.start Try.func28 Try.ntmps28 rfl (by kernel_rfl) fun hk => ?_; simp only [Env.start, enumF, List.length_cons, List.length_nil, Nat.reduceAdd, Nat.reduceSub, List.cons_append, List.nil_append])
  repeat' (first | (apply AOps.nil; try simp only [List.nil_append, List.cons_append, List.set_cons_zero, List.set_cons_succ, List.length_cons, List.length_nil, Nat.reduceAdd, AV.sh, AV.sh1, AV.sh0, AO.sh, List.map_cons, List.map_nil, Nat.zero_add, Nat.add_zero, setAll]) | (apply w_assign; exact rfl; exact rfl) | apply AWp.seq | apply AWp.region | apply AWp.block | ((first | apply w_build0 | apply w_boxa); iterate 2 exact rfl) | (apply w_bs0; iterate 1 exact rfl) | (apply w_alst; iterate 2 exact rfl) | (apply w_stst; iterate 5 exact rfl))
  refine AWp.turns (Turns.nilI (k := 2) (i := 0) 2 rfl rfl) ?_
  refine AWp.turns (Turns.nilF (k := 2) (i := 1) 22 2 rfl rfl) ?_
  refine AWp.cut (env' := ⟨98, [(1, .ro (blR bs)), (2, .optr 0 0), (6, .optr 2 0), (7, .own 1), (8, .i 0)]⟩) (os' := [.bx 29 [.ints W, .intss E], .sli 2 (nmB (bF bs) 0), .bx 29 [.own 3, .own 4], .sli 2 (swL W (bF bs) 0), .sls 22 2 []]) ?_ ?_
  · (apply Or.inl; refine ⟨lee rfl ?_, ?_, rfl, rfl⟩; (focus ((repeat (first | exact le_nil | refine le_eq rfl rfl ?_)); done)); (focus ((repeat (first | exact lo_nil | refine lo_eq rfl ?_)); done)))
  refine AWp.loop (ι := Nat) (fun i => ⟨98, [(1, .ro (blR bs)), (2, .optr 0 0), (6, .optr 2 0), (7, .own 1), (8, .i i)]⟩) (fun i => [.bx 29 [.ints W, .intss E], .sli 2 (nmB (bF bs) i), .bx 29 [.own 3, .own 4], .sli 2 (swL W (bF bs) i), .sls 22 2 []]) (fun i => i ≤ bs.length) (fun i => bs.length - i) 0 (Nat.zero_le _) ⟨lee rfl (by (repeat (first | exact le_nil | refine le_eq rfl rfl ?_))), by (repeat (first | exact lo_nil | refine lo_eq rfl ?_)), rfl, rfl⟩ ?_
  · intro i i0
    by_cases hi : i < bs.length
    · have hwl := sw_len W (bF bs) i
      have hrk := rk_le (bF bs) i
      have hw := hG.w (i : Nat)
      have s0 := nm_succ (bF bs) i
      have hnl := nm_len (bF bs) i
      rw [← hwl] at s0
      cases hB : bF bs i with
      | true =>
        have hB2 : bs.getD (i : Int).toNat false = true := hB
        have hB3 : ¬ bs.getD (i : Int).toNat false = false := by rw [hB2]; simp
        have s2 := sw_t (W := W) hB
        repeat' (first | (apply AOps.nil; try simp only [List.nil_append, List.cons_append, List.set_cons_zero, List.set_cons_succ, List.length_cons, List.length_nil, Nat.reduceAdd, AV.sh, AV.sh1, AV.sh0, AO.sh, List.map_cons, List.map_nil, Nat.zero_add, Nat.add_zero, setAll]) | (apply w_move; exact rfl; exact rfl) | (apply w_assign; exact rfl; exact rfl) | apply AWp.seq | apply AWp.region | ((apply AWp.condP; exact rfl) <;> intro h) | ((apply AWp.condB; exact rfl) <;> intro h) | apply AWp.block | apply AWp.exit | apply AWp.skip | (apply w_len; exact rfl; exact rfl; first | exact .ints _ | exact .intss _ | exact .sli rfl | exact .sls rfl | exact .slr rfl | exact .orow rfl | exact .nil) | (apply w_lenbl; (exact rfl); exact rfl) | (apply w_idxbl; (exact rfl); exact rfl; exact rfl) | (apply w_ldblr; (exact rfl); exact rfl; exact rfl) | omega | contradiction | ((first | apply w_lss | apply w_ld | apply w_fa); iterate 3 exact rfl) | ((apply w_bs1); iterate 2 exact rfl) | (apply w_ldb; iterate 5 exact rfl) | (apply w_app; exact rfl; exact rfl; exact rfl; exact rfl; (exact .sli rfl); rotate_left 1; simp only [Env.mp, List.map_cons, List.map_nil, List.set_cons_zero, List.set_cons_succ, AV.kill, AV.kill1, AO.kill, AV.noRow, AV.noRow1, AO.via, reduceIte, Nat.reduceEqDiff, Nat.reduceLT, Env.up, Nat.zero_ne_one, Nat.one_ne_zero, Nat.reduceAdd, List.cons_append, List.nil_append]; rotate_left 1) | (apply inI_of <;> omega) | (simp <;> omega))
        all_goals try (exfalso; first | exact absurd hB2 (by assumption) | exact hB3 (by assumption))
        refine AWp.cut (env' := ⟨98, [(1, .ro (blR bs)), (2, .optr 0 0), (6, .optr 2 0), (7, .own 1), (8, .i i)]⟩) (os' := [.bx 29 [.ints W, .intss E], .sli 2 (nmB (bF bs) (i + 1)), .bx 29 [.own 3, .own 4], .sli 2 (swL W (bF bs) i), .sls 22 2 []]) ?_ ?_
        · rw [s0]
          (apply Or.inl; refine ⟨lee rfl ?_, ?_, rfl, rfl⟩; (focus ((repeat (first | exact le_nil | refine le_eq rfl rfl ?_)); done)); (focus ((repeat (first | exact lo_nil | refine lo_eq rfl ?_)); done)))
        refine AWp.regionA (by kernel_rfl) (envC := ⟨98, [(1, .ro (blR bs)), (2, .optr 0 0), (6, .optr 2 0), (7, .own 1), (8, .i i)]⟩) (osC := [.bx 29 [.ints W, .intss E], .sli 2 (nmB (bF bs) (i + 1)), .bx 29 [.own 3, .own 4], .sli 2 (swL W (bF bs) (i + 1)), .sls 22 2 []]) rfl rfl ?_ ?_
        · repeat' (first | (apply AOps.nil; try simp only [List.nil_append, List.cons_append, List.set_cons_zero, List.set_cons_succ, List.length_cons, List.length_nil, Nat.reduceAdd, AV.sh, AV.sh1, AV.sh0, AO.sh, List.map_cons, List.map_nil, Nat.zero_add, Nat.add_zero, setAll]) | (apply w_move; exact rfl; exact rfl) | omega | ((first | apply w_idx | apply w_ld | apply w_fa); iterate 3 exact rfl) | ((apply w_bs1); iterate 2 exact rfl) | (apply w_ldb; iterate 5 exact rfl) | (apply w_app; exact rfl; exact rfl; exact rfl; exact rfl; (exact .sli rfl); rotate_left 1; simp only [Env.mp, List.map_cons, List.map_nil, List.set_cons_zero, List.set_cons_succ, AV.kill, AV.kill1, AO.kill, AV.noRow, AV.noRow1, AO.via, reduceIte, Nat.reduceEqDiff, Nat.reduceLT, Env.up, Nat.zero_ne_one, Nat.one_ne_zero, Nat.reduceAdd, List.cons_append, List.nil_append]; rotate_left 1) | (apply w_stbo; exact rfl; exact rfl; exact rfl; exact rfl; exact rfl; exact True.intro) | apply AllOf.nil | (apply AllOf.cons; exact rfl) | (apply AAny.take; exact rfl; exact rfl; kernel_rfl; kernel_rfl) | (apply AAny.all; exact rfl) | (apply AAny.done; exact rfl) | (apply inI_of <;> omega) | (simp <;> omega))
          all_goals rw [s2]
          all_goals (apply Or.inl; refine ⟨lee rfl ?_, ?_, rfl, rfl⟩; (focus ((repeat (first | exact le_nil | refine le_eq rfl rfl ?_)); done)); (focus ((repeat (first | exact lo_nil | refine lo_eq rfl ?_)); done)))
        repeat' (first | (apply AOps.nil; try simp only [List.nil_append, List.cons_append, List.set_cons_zero, List.set_cons_succ, List.length_cons, List.length_nil, Nat.reduceAdd, AV.sh, AV.sh1, AV.sh0, AO.sh, List.map_cons, List.map_nil, Nat.zero_add, Nat.add_zero, setAll]) | (apply w_move; exact rfl; exact rfl) | (apply w_assign; exact rfl; exact rfl) | apply AWp.region | ((apply w_add); iterate 3 exact rfl) | (apply inI_of <;> omega))
        exact ⟨i + 1, by omega, by omega, ⟨lee rfl (by (repeat (first | exact le_nil | refine le_eq rfl rfl ?_))), by (repeat (first | exact lo_nil | refine lo_eq rfl ?_)), rfl, rfl⟩⟩
      | false =>
        have hB2 : ¬ bs.getD (i : Int).toNat false = true := by rw [show bs.getD (i : Int).toNat false = bF bs i from rfl, hB]; simp
        have s2 := sw_f (W := W) hB
        repeat' (first | (apply AOps.nil; try simp only [List.nil_append, List.cons_append, List.set_cons_zero, List.set_cons_succ, List.length_cons, List.length_nil, Nat.reduceAdd, AV.sh, AV.sh1, AV.sh0, AO.sh, List.map_cons, List.map_nil, Nat.zero_add, Nat.add_zero, setAll]) | (apply w_move; exact rfl; exact rfl) | (apply w_assign; exact rfl; exact rfl) | apply AWp.seq | apply AWp.region | ((apply AWp.condP; exact rfl) <;> intro h) | ((apply AWp.condB; exact rfl) <;> intro h) | apply AWp.block | apply AWp.exit | apply AWp.skip | (apply w_len; exact rfl; exact rfl; first | exact .ints _ | exact .intss _ | exact .sli rfl | exact .sls rfl | exact .slr rfl | exact .orow rfl | exact .nil) | (apply w_lenbl; (exact rfl); exact rfl) | (apply w_idxbl; (exact rfl); exact rfl; exact rfl) | (apply w_ldblr; (exact rfl); exact rfl; exact rfl) | omega | contradiction | ((first | apply w_lss | apply w_add | apply w_ld | apply w_fa); iterate 3 exact rfl) | ((apply w_bs1); iterate 2 exact rfl) | (apply w_ldb; iterate 5 exact rfl) | (apply w_app; exact rfl; exact rfl; exact rfl; exact rfl; (exact .sli rfl); rotate_left 1; simp only [Env.mp, List.map_cons, List.map_nil, List.set_cons_zero, List.set_cons_succ, AV.kill, AV.kill1, AO.kill, AV.noRow, AV.noRow1, AO.via, reduceIte, Nat.reduceEqDiff, Nat.reduceLT, Env.up, Nat.zero_ne_one, Nat.one_ne_zero, Nat.reduceAdd, List.cons_append, List.nil_append]; rotate_left 1) | (apply inI_of <;> omega) | (simp <;> omega))
        refine ⟨i + 1, by omega, by omega, ?_⟩
        rw [s2, s0]
        exact ⟨lee rfl (by (repeat (first | exact le_nil | refine le_eq rfl rfl ?_))), by (repeat (first | exact lo_nil | refine lo_eq rfl ?_)), rfl, rfl⟩
    · obtain rfl : i = bs.length := by omega
      rw [hb, subW_eq]
      have hsl0 : (subW W (bF bs)).length ≤ 40 := by rw [subW_len]; have := rk_le (bF bs) W.length; omega
      repeat' (first | (apply AOps.nil; try simp only [List.nil_append, List.cons_append, List.set_cons_zero, List.set_cons_succ, List.length_cons, List.length_nil, Nat.reduceAdd, AV.sh, AV.sh1, AV.sh0, AO.sh, List.map_cons, List.map_nil, Nat.zero_add, Nat.add_zero, setAll]) | (apply w_move; exact rfl; exact rfl) | (apply w_assign; exact rfl; exact rfl) | apply AWp.seq | apply AWp.region | ((apply AWp.condP; exact rfl) <;> intro h) | apply AWp.block | apply AWp.ret | apply AWp.exit | apply AWp.skip | (apply w_len; exact rfl; exact rfl; first | exact .ints _ | exact .intss _ | exact .sli rfl | exact .sls rfl | exact .slr rfl | exact .orow rfl | exact .nil) | (apply w_lenbl; (exact rfl); exact rfl) | omega | ((first | apply w_lss | apply w_eql | apply w_ld | apply w_fa); iterate 3 exact rfl) | (apply w_ldb; iterate 5 exact rfl))
      refine AWp.loop (ι := Nat) (fun k => ⟨98, [(1, .ro (blR bs)), (2, .optr 0 0), (6, .optr 2 0), (7, .own 1), (9, .i k)]⟩) (fun k => [.bx 29 [.ints W, .intss E], .sli 2 (nmB (bF bs) W.length), .bx 29 [.own 3, .own 4], .sli 2 (subW W (bF bs)), .sls 22 2 (seL E (bF bs) k)]) (fun k => k ≤ E.length) (fun k => E.length - k) 0 (Nat.zero_le _) ⟨lee rfl (by (repeat (first | exact le_nil | refine le_eq rfl rfl ?_))), by (repeat (first | exact lo_nil | refine lo_eq rfl ?_)), rfl, rfl⟩ ?_
      intro k k0
      by_cases hk : k < E.length
      · have hm := gets_mem (xss := E) (i := (k : Nat)) (by omega) (by omega)
        obtain ⟨e0, e1, e2, e3⟩ := hG.fo.row _ hm
        have hnl := nm_len (bF bs) W.length
        have hsl := se_len E (bF bs) k
        by_cases hB : eB (bF bs) (gets E (k : Nat)) = true
        · have hB' := hB
          unfold eB at hB'
          rw [Bool.and_eq_true] at hB'
          have b0 : bs.getD (geti (gets E (k : Nat)) 0).toNat false = true := hB'.1
          have b1 : bs.getD (geti (gets E (k : Nat)) 1).toNat false = true := hB'.2
          have nb0 : ¬ bs.getD (geti (gets E (k : Nat)) 0).toNat false = false := by rw [b0]; simp
          have nb1 : ¬ bs.getD (geti (gets E (k : Nat)) 1).toNat false = false := by rw [b1]; simp
          have n0 := nm_get (B := bF bs) (n := W.length) e1 (by omega)
          have n1 := nm_get (B := bF bs) (n := W.length) (show 0 ≤ geti (gets E (k : Nat)) 1 by omega) e3
          have m0 : geti (nmB (bF bs) W.length) ((geti (gets E (k : Nat)) 0).toNat : Nat) = (rkB (bF bs) (geti (gets E (k : Nat)) 0).toNat : Int) := n0
          have m1 : geti (nmB (bF bs) W.length) ((geti (gets E (k : Nat)) 1).toNat : Nat) = (rkB (bF bs) (geti (gets E (k : Nat)) 1).toNat : Int) := n1
          have s2 : seL E (bF bs) k ++ [[(rkB (bF bs) (geti (gets E (k : Nat)) 0).toNat : Int), (rkB (bF bs) (geti (gets E (k : Nat)) 1).toNat : Int)]] = seL E (bF bs) (k + 1) := se_t hk hB
          have q0 := rk_le (bF bs) (geti (gets E (k : Nat)) 0).toNat
          have q1 := rk_le (bF bs) (geti (gets E (k : Nat)) 1).toNat
          repeat' (first | (apply AOps.nil; try simp only [List.nil_append, List.cons_append, List.set_cons_zero, List.set_cons_succ, List.length_cons, List.length_nil, Nat.reduceAdd, AV.sh, AV.sh1, AV.sh0, AO.sh, List.map_cons, List.map_nil, Nat.zero_add, Nat.add_zero, setAll]) | (apply w_move; exact rfl; exact rfl) | apply AWp.seq | apply AWp.region | ((apply AWp.condP; exact rfl) <;> intro h) | apply AWp.block | apply AWp.exit | apply AWp.skip | (apply w_len; exact rfl; exact rfl; first | exact .ints _ | exact .intss _ | exact .sli rfl | exact .sls rfl | exact .slr rfl | exact .orow rfl | exact .nil) | omega | ((first | apply w_lss | apply w_ld | apply w_fa); iterate 3 exact rfl) | (apply w_ldb; iterate 5 exact rfl))
          refine AWp.regionQ (by kernel_rfl) (by kernel_rfl) ?_
          repeat' (first | (apply AOps.nil; try simp only [List.nil_append, List.cons_append, List.set_cons_zero, List.set_cons_succ, List.length_cons, List.length_nil, Nat.reduceAdd, AV.sh, AV.sh1, AV.sh0, AO.sh, List.map_cons, List.map_nil, Nat.zero_add, Nat.add_zero, setAll]) | (apply w_move; exact rfl; exact rfl) | (apply w_assign; exact rfl; exact rfl) | apply AWp.seq | apply AWp.region | (apply AWp.condF; exact rfl) | ((apply AWp.condB; exact rfl) <;> intro h) | apply AWp.skip | (apply w_skip; exact rfl) | (apply w_pickT; exact rfl; exact rfl; exact rfl) | (apply w_pickF; exact rfl; exact rfl; exact rfl) | (apply w_idxbl; (exact rfl); exact rfl; exact rfl) | (apply w_ldblr; (exact rfl); exact rfl; exact rfl) | omega | contradiction | ((first | apply w_idx | apply w_ld | apply w_fa); iterate 3 exact rfl) | ((first | apply w_idxs | apply w_lds); iterate 3 exact rfl) | (apply w_ldb; iterate 5 exact rfl) | ((apply AOps.splitB; exact rfl; exact rfl) <;> intro h))
          all_goals try (exfalso; first | exact absurd b0 (by assumption) | exact absurd b1 (by assumption) | exact nb0 (by assumption) | exact nb1 (by assumption))
          refine AWp.cut (env' := ⟨98, [(1, .ro (blR bs)), (2, .optr 0 0), (6, .optr 2 0), (7, .own 1), (9, .i k), (10, .i (geti (gets E (k : Nat)) 0)), (11, .i (geti (gets E (k : Nat)) 1))]⟩) (os' := [.bx 29 [.ints W, .intss E], .sli 2 (nmB (bF bs) W.length), .bx 29 [.own 3, .own 4], .sli 2 (subW W (bF bs)), .sls 22 2 (seL E (bF bs) k)]) ?_ ?_
          · (apply Or.inl; refine ⟨lee rfl ?_, ?_, rfl, rfl⟩; (focus ((repeat (first | exact le_nil | refine le_eq rfl rfl ?_)); done)); (focus ((repeat (first | exact lo_nil | refine lo_eq rfl ?_)); done)))
          refine AWp.regionG [] (by kernel_rfl) (envC := ⟨98, [(1, .ro (blR bs)), (2, .optr 0 0), (6, .optr 2 0), (7, .own 1), (9, .i k)]⟩) (osC := [.bx 29 [.ints W, .intss E], .sli 2 (nmB (bF bs) W.length), .bx 29 [.own 3, .own 4], .sli 2 (subW W (bF bs)), .sls 22 2 (seL E (bF bs) (k + 1))]) rfl rfl ?_ ?_
          · repeat' (first | (apply AOps.nil; try simp only [List.nil_append, List.cons_append, List.set_cons_zero, List.set_cons_succ, List.length_cons, List.length_nil, Nat.reduceAdd, AV.sh, AV.sh1, AV.sh0, AO.sh, List.map_cons, List.map_nil, Nat.zero_add, Nat.add_zero, setAll]) | (apply w_move; exact rfl; exact rfl) | ((first | apply w_bsr1 | apply w_idx | apply w_ld | apply w_fa | apply w_bs2); iterate 3 exact rfl) | (apply w_appr; exact rfl; exact rfl; exact rfl; exact rfl; exact rfl; exact rfl; exact rfl; rotate_left 1; simp only [Env.mp, List.map_cons, List.map_nil, List.set_cons_zero, List.set_cons_succ, AV.kill, AV.kill1, AO.kill, AV.rin, AV.rin1, AV.noRow, AV.noRow1, AO.via, reduceIte, Nat.reduceEqDiff, Nat.reduceLT, Env.up, Nat.zero_ne_one, Nat.one_ne_zero, Nat.reduceAdd, List.cons_append, List.nil_append]; rotate_left 1) | apply AllOfG.nil | (apply AllOfG.consQ; exact rfl; exact rfl) | (apply AllOfG.consS; exact rfl; exact rfl) | (apply AAnyG.takeW; exact rfl; exact rfl; kernel_rfl; kernel_rfl) | (apply AAnyG.takeL; exact rfl; exact rfl; kernel_rfl) | (apply AAnyG.all; exact rfl) | (apply AAnyG.done; exact rfl) | omega | (apply w_idxo; exact rfl; exact rfl; (exact .sli rfl); exact rfl) | (apply w_ldo; iterate 4 exact rfl) | (apply w_ldb; iterate 5 exact rfl) | (apply w_stbo; exact rfl; exact rfl; exact rfl; exact rfl; exact rfl; exact True.intro) | (apply inI_of <;> omega))
            all_goals rw [m0, m1, s2]
            all_goals (apply Or.inl; refine ⟨lee rfl ?_, ?_, rfl, rfl⟩; (focus ((repeat (first | exact le_nil | refine le_eq rfl rfl ?_)); done)); (focus ((repeat (first | exact lo_nil | refine lo_eq rfl ?_)); done)))
          repeat' (first | (apply AOps.nil; try simp only [List.nil_append, List.cons_append, List.set_cons_zero, List.set_cons_succ, List.length_cons, List.length_nil, Nat.reduceAdd, AV.sh, AV.sh1, AV.sh0, AO.sh, List.map_cons, List.map_nil, Nat.zero_add, Nat.add_zero, setAll]) | (apply w_move; exact rfl; exact rfl) | (apply w_assign; exact rfl; exact rfl) | apply AWp.region | ((apply w_add); iterate 3 exact rfl) | (apply inI_of <;> omega))
          exact ⟨k + 1, by omega, by omega, ⟨lee rfl (by (repeat (first | exact le_nil | refine le_eq rfl rfl ?_))), by (repeat (first | exact lo_nil | refine lo_eq rfl ?_)), rfl, rfl⟩⟩
        · have s1 := se_f hk hB
          repeat' (first | (apply AOps.nil; try simp only [List.nil_append, List.cons_append, List.set_cons_zero, List.set_cons_succ, List.length_cons, List.length_nil, Nat.reduceAdd, AV.sh, AV.sh1, AV.sh0, AO.sh, List.map_cons, List.map_nil, Nat.zero_add, Nat.add_zero, setAll]) | (apply w_move; exact rfl; exact rfl) | apply AWp.seq | apply AWp.region | ((apply AWp.condP; exact rfl) <;> intro h) | apply AWp.block | apply AWp.exit | apply AWp.skip | (apply w_len; exact rfl; exact rfl; first | exact .ints _ | exact .intss _ | exact .sli rfl | exact .sls rfl | exact .slr rfl | exact .orow rfl | exact .nil) | omega | ((first | apply w_lss | apply w_ld | apply w_fa); iterate 3 exact rfl) | (apply w_ldb; iterate 5 exact rfl))
          refine AWp.regionQ (by kernel_rfl) (by kernel_rfl) ?_
          repeat' (first | (apply AOps.nil; try simp only [List.nil_append, List.cons_append, List.set_cons_zero, List.set_cons_succ, List.length_cons, List.length_nil, Nat.reduceAdd, AV.sh, AV.sh1, AV.sh0, AO.sh, List.map_cons, List.map_nil, Nat.zero_add, Nat.add_zero, setAll]) | (apply w_move; exact rfl; exact rfl) | (apply w_assign; exact rfl; exact rfl) | apply AWp.seq | apply AWp.region | (apply AWp.condF; exact rfl) | ((apply AWp.condB; exact rfl) <;> intro h) | apply AWp.skip | (apply w_skip; exact rfl) | (apply w_pickT; exact rfl; exact rfl; exact rfl) | (apply w_pickF; exact rfl; exact rfl; exact rfl) | (apply w_idxbl; (exact rfl); exact rfl; exact rfl) | (apply w_ldblr; (exact rfl); exact rfl; exact rfl) | omega | ((first | apply w_add | apply w_idx | apply w_ld | apply w_fa); iterate 3 exact rfl) | ((first | apply w_idxs | apply w_lds); iterate 3 exact rfl) | (apply w_ldb; iterate 5 exact rfl) | ((apply AOps.splitB; exact rfl; exact rfl) <;> intro h) | (apply inI_of <;> omega))
          all_goals try (exfalso; exact hB (by unfold eB bF; rw [Bool.and_eq_true]; exact ⟨by assumption, by assumption⟩))
          all_goals
            refine ⟨k + 1, by omega, by omega, ?_⟩
            rw [s1]
            exact ⟨lee rfl (by (repeat (first | exact le_nil | refine le_eq rfl rfl ?_))), by (repeat (first | exact lo_nil | refine lo_eq rfl ?_)), rfl, rfl⟩
      · obtain rfl : k = E.length := by omega
        rw [se_all]
        repeat' (first | (apply AOps.nil; try simp only [List.nil_append, List.cons_append, List.set_cons_zero, List.set_cons_succ, List.length_cons, List.length_nil, Nat.reduceAdd, AV.sh, AV.sh1, AV.sh0, AO.sh, List.map_cons, List.map_nil, Nat.zero_add, Nat.add_zero, setAll]) | (apply w_move; exact rfl; exact rfl) | (apply w_assign; exact rfl; exact rfl) | apply AWp.seq | apply AWp.region | ((apply AWp.condP; exact rfl) <;> intro h) | apply AWp.block | apply AWp.ret | apply AWp.exit | apply AWp.skip | (apply w_len; exact rfl; exact rfl; first | exact .ints _ | exact .intss _ | exact .sli rfl | exact .sls rfl | exact .slr rfl | exact .orow rfl | exact .nil) | (apply w_call (hd); exact rfl; exact rfl; focus ((repeat (first | exact im_nil | refine im_cons rfl (im_agg2 (.sli rfl) (.sls rfl)) ?_)); done)) | omega | ((first | apply w_lss | apply w_ld | apply w_fa | apply w_extv); iterate 3 exact rfl) | (apply w_ldb; iterate 5 exact rfl) | (apply w_ldst; iterate 5 exact rfl))
        all_goals exact .vv2 Try.results28 rfl rfl
end Go.Proofs.Ytlkhcelodcneiaa
/-
  The quadratic form of a forest: where all F are positive it is negative at all lists that are not 0. No condition.
-/
namespace Go.Proofs.Ytlkhcelodcneiaa
open Go Go.RowKit

/-! ### Sums over lists -/
/-! ### Branches -/
section
variable {n : Nat} {near : Int → List Int} {r : Int} {o p W : List Int} {x : Int → Int}
theorem rk_ch (h : Tr n near r o p) {k : Int → Nat} (k2 : ∀ x ∈ o, x ≠ r → geti p x ∈ o ∧ k (geti p x) < k x ∧ x ∈ near (geti p x)) {v c : Int} (hv : v ∈ o) (hc : c ∈ chl near p v) : c ∈ o ∧ k v < k c := by
  obtain ⟨_, _, c3, c4, c5⟩ := chl_mem h hv hc
  have := (k2 c c3 c4).2.1
  rw [c5] at this
  exact ⟨c3, this⟩
/-- From the leaves to the root. -/
theorem Tr.up (h : Tr n near r o p) {C : Int → Prop} (step : ∀ v ∈ o, (∀ c ∈ chl near p v, C c) → C v) : ∀ v ∈ o, C v := by
  obtain ⟨k, k1, k2⟩ := h.rank
  have key : ∀ (m : Nat) v, v ∈ o → n ≤ m + k v → C v := by
    intro m
    induction m with
    | zero => intro v hv hm; have := k1 v hv; omega
    | succ m ih =>
      intro v hv hm
      refine step v hv fun c hc => ?_
      obtain ⟨c3, c4⟩ := rk_ch h k2 hv hc
      exact ih c c3 (by omega)
  exact fun v hv => key n v hv (by omega)
/-! ### The form, vertex by vertex -/
end
end Go.Proofs.Ytlkhcelodcneiaa
/-
  The quadratic form of a forest, all trees together. No condition.
-/
namespace Go.Proofs.Ytlkhcelodcneiaa
open Go Go.RowKit
section
variable {n : Nat} {near : Int → List Int} {r : Int} {o p W : List Int} {x : Int → Int}
end
end Go.Proofs.Ytlkhcelodcneiaa
/-
  The labels of components and the roots: a label is new at the roots alone; the determinant is the product over them. No condition.
-/
namespace Go.Proofs.Ytlkhcelodcneiaa
open Go Go.RowKit

theorem mm_len (L : List Int) (e : List Int) : (mmL L e).length = L.length := mgL_len _ _ _
theorem mm_get {L e : List Int} {x : Int} (h0 : 0 ≤ x) (h1 : x < L.length) : geti (mmL L e) x = if geti L x = max (geti L (geti e 0)) (geti L (geti e 1)) then min (geti L (geti e 0)) (geti L (geti e 1)) else geti L x := mgL_get h0 h1
theorem lb_pres {n : Nat} : ∀ {E : List (List Int)} {L : List Int}, L.length = n → ∀ {x y : Int}, (0 ≤ x ∧ x < n) → (0 ≤ y ∧ y < n) → geti L x = geti L y → geti (lbR L E) x = geti (lbR L E) y
  | [], _, _, _, _, _, _, h => h
  | e :: E, L, hl, x, y, hx, hy, h => by
    rw [lbR]
    refine lb_pres (by rw [mm_len]; exact hl) hx hy ?_
    rw [mm_get hx.1 (by omega), mm_get hy.1 (by omega), h]
theorem lb_edge {n : Nat} : ∀ {E : List (List Int)} {L : List Int}, L.length = n → (∀ e ∈ E, EIn n e) → ∀ e ∈ E, geti (lbR L E) (geti e 0) = geti (lbR L E) (geti e 1)
  | [], _, _, _, e, he => by cases he
  | f :: E, L, hl, hE, e, he => by
    rw [lbR]
    rcases List.mem_cons.1 he with rfl | he
    · obtain ⟨_, h0, h1, h2⟩ := hE e (by simp)
      refine lb_pres (by rw [mm_len]; exact hl) ⟨h0, by omega⟩ ⟨by omega, h2⟩ ?_
      rw [mm_get h0 (by omega), mm_get (by omega) (by omega)]
      split <;> split <;> omega
    · exact lb_edge (by rw [mm_len]; exact hl) (fun g hg => hE g (by simp [hg])) e he
theorem lb_conn {n : Nat} {C : Int → Int} : ∀ {E : List (List Int)} {L : List Int}, L.length = n → (∀ e ∈ E, EIn n e ∧ C (geti e 0) = C (geti e 1)) →
    (∀ x y : Int, (0 ≤ x ∧ x < n) → (0 ≤ y ∧ y < n) → geti L x = geti L y → C x = C y) → ∀ x y : Int, (0 ≤ x ∧ x < n) → (0 ≤ y ∧ y < n) → geti (lbR L E) x = geti (lbR L E) y → C x = C y
  | [], _, _, _, h, x, y, hx, hy, e => h x y hx hy e
  | f :: E, L, hl, hE, h, x, y, hx, hy, e => by
    rw [lbR] at e
    obtain ⟨⟨_, f0, f1, f2⟩, hc⟩ := hE f (by simp)
    refine lb_conn (C := C) (L := mmL L f) (by rw [mm_len]; exact hl) (fun g hg => hE g (by simp [hg])) ?_ x y hx hy e
    intro u v hu hv e2
    rw [mm_get hu.1 (by omega), mm_get hv.1 (by omega)] at e2
    have k0 : ∀ z : Int, (0 ≤ z ∧ z < n) → geti L z = geti L (geti f 0) → C z = C (geti f 0) := fun z hz ez => h z _ hz ⟨f0, by omega⟩ ez
    have k1 : ∀ z : Int, (0 ≤ z ∧ z < n) → geti L z = geti L (geti f 1) → C z = C (geti f 0) := fun z hz ez => by rw [hc]; exact h z _ hz ⟨by omega, f2⟩ ez
    have key : ∀ z : Int, (0 ≤ z ∧ z < n) → (geti L z = min (geti L (geti f 0)) (geti L (geti f 1)) ∨ geti L z = max (geti L (geti f 0)) (geti L (geti f 1))) → C z = C (geti f 0) := fun z hz ez => by
      by_cases hq : geti L z = geti L (geti f 0)
      · exact k0 z hz hq
      · exact k1 z hz (by omega)
    by_cases c1 : geti L u = max (geti L (geti f 0)) (geti L (geti f 1))
    · rw [if_pos c1] at e2
      rw [key u hu (.inr c1)]
      by_cases c2 : geti L v = max (geti L (geti f 0)) (geti L (geti f 1))
      · rw [key v hv (.inr c2)]
      · rw [if_neg c2] at e2
        rw [key v hv (.inl e2.symm)]
    · rw [if_neg c1] at e2
      by_cases c2 : geti L v = max (geti L (geti f 0)) (geti L (geti f 1))
      · rw [if_pos c2] at e2
        rw [key u hu (.inl e2), key v hv (.inr c2)]
      · rw [if_neg c2] at e2
        exact h u v hu hv e2
section
variable {n : Nat} {E : List (List Int)}
/-- The components' representatives. -/
def repL (n : Nat) (E : List (List Int)) : List Int := lbR (idL n) E
theorem rep_ri (hE : ∀ e ∈ E, EIn n e) : RI n (repL n E) := (rc_run (E := E) (RI.id n) (M := idL n) (fun _ _ _ _ _ _ => Iff.rfl) (idL_len n) hE).1
theorem rep_near (hE : ∀ e ∈ E, EIn n e) {u v : Int} (h : u ∈ nearL E v) : geti (repL n E) u = geti (repL n E) v := by
  rcases (near_mem (fun e he => (hE e he).1)).1 h with h | h
  · exact lb_edge (idL_len n) hE _ h
  · exact (lb_edge (idL_len n) hE _ h).symm
theorem rep_tree (hE : ∀ e ∈ E, EIn n e) {r : Int} {o p : List Int} (h : Tr n (nearL E) r o p) : ∀ (m j : Nat) (x : Int), j ≤ m → o[j]? = some x → geti (repL n E) x = geti (repL n E) r := by
  intro m
  induction m with
  | zero =>
    intro j x hj hx
    obtain rfl : j = 0 := by omega
    have := h.root
    rw [hx] at this
    cases this
    rfl
  | succ m ih =>
    intro j x hj hx
    by_cases e : x = r
    · rw [e]
    · obtain ⟨k, y, k1, k2, k3, k4⟩ := h.par hx e
      rw [rep_near hE k4]
      exact ih k y (by omega) k2
theorem root_conn (hF : Fst n (nearL E)) {u v : Int} (hu : 0 ≤ u ∧ u < n) (hv : 0 ≤ v ∧ v < n) (h : u ∈ nearL E v) : rootOf n (nearL E) u = rootOf n (nearL E) v := by
  obtain ⟨a1, a2⟩ := rootOf_ok hF hu
  obtain ⟨b1, b2⟩ := rootOf_ok hF hv
  have := (trC_ok hF (rts_rng n (nearL E) n _ b1)).closed hF b2 h
  exact rts_uniq hF a1 b1 a2 this
theorem root_same (hF : Fst n (nearL E)) (hE : ∀ e ∈ E, EIn n e) {x y : Int} (hx : 0 ≤ x ∧ x < n) (hy : 0 ≤ y ∧ y < n) (h : geti (repL n E) x = geti (repL n E) y) : rootOf n (nearL E) x = rootOf n (nearL E) y := by
  refine lb_conn (idL_len n) (fun e he => ⟨hE e he, ?_⟩) (fun u v hu hv e => ?_) x y hx hy h
  · obtain ⟨h0, h1, h2, h3⟩ := hE e he
    refine root_conn hF ⟨h1, by omega⟩ ⟨by omega, h3⟩ ?_
    refine (near_mem (fun e he => (hE e he).1)).2 (.inl ?_)
    rw [← e2 h0]; exact he
  · rw [idL_get hu, idL_get hv] at e
    rw [e]
theorem root_iff (hF : Fst n (nearL E)) (hE : ∀ e ∈ E, EIn n e) {v : Nat} (hv : v < n) : (v : Int) ∈ rts n (nearL E) n ↔ geti (repL n E) (v : Nat) = (v : Nat) := by
  have hR := rep_ri hE
  have l0 := hR.lo (v : Nat) (by omega) (by omega)
  have l1 := hR.hi (v : Nat) (by omega) (by omega)
  have l2 := hR.idem (v : Nat) (by omega) (by omega)
  obtain ⟨a1, a2⟩ := rootOf_ok hF (x := (v : Int)) ⟨by omega, by omega⟩
  have hTv := trC_ok hF (rts_rng n (nearL E) n _ a1)
  constructor
  · intro hr
    have hself := (trC_ok hF (r := (v : Int)) ⟨by omega, by omega⟩).rt
    have e1 : rootOf n (nearL E) (v : Int) = (v : Int) := rts_uniq hF a1 hr a2 hself
    refine Classical.byContradiction fun hne => ?_
    have hs := root_same hF hE (x := geti (repL n E) (v : Nat)) (y := (v : Nat)) ⟨l0, by omega⟩ ⟨by omega, by omega⟩ l2
    obtain ⟨b1, b2⟩ := rootOf_ok hF (x := geti (repL n E) (v : Nat)) ⟨l0, by omega⟩
    rw [hs, e1] at b2
    obtain ⟨r, r1, r2⟩ := rts_cov hF v (by omega) (geti (repL n E) (v : Nat)) l0 (by omega)
    have r3 := rts_rng n (nearL E) v r r1
    have := rts_uniq hF (rts_mono n (nearL E) r1 n (by omega)) hr r2 b2
    omega
  · intro hl
    have hlt := hTv.rt
    obtain ⟨j, hj⟩ := List.getElem?_of_mem a2
    have e1 := rep_tree hE hTv j j _ (Nat.le_refl _) hj
    have rr := rts_rng n (nearL E) n _ a1
    have e2 := hR.hi _ rr.1 rr.2
    rw [← e1, hl] at e2
    obtain ⟨r, r1, r2⟩ := rts_cov hF (v + 1) (by omega) (v : Int) (by omega) (by omega)
    have r3 := rts_rng n (nearL E) (v + 1) r r1
    have e3 := rts_uniq hF (rts_mono n (nearL E) r1 n (by omega)) a1 r2 a2
    have : rootOf n (nearL E) (v : Int) = (v : Int) := by omega
    rw [← this]; exact a1
end
end Go.Proofs.Ytlkhcelodcneiaa
/-
  Graphs of one component: numbers of roots, of edges, labels. No condition.
-/
namespace Go.Proofs.Ytlkhcelodcneiaa
open Go Go.RowKit

section
variable {n : Nat} {E : List (List Int)}
theorem rts_rc (hF : Fst n (nearL E)) (hE : ∀ e ∈ E, EIn n e) : ∀ v, v ≤ n → (rts n (nearL E) v).length = rcL (repL n E) v
  | 0, _ => by simp [rts, rcL]
  | v + 1, hv => by
    have ih := rts_rc hF hE v (by omega)
    rw [rts_step hF (by omega), rc_succ, ← ih]
    by_cases c : (v : Int) ∈ rts n (nearL E) n
    · rw [if_pos c, if_pos ((root_iff hF hE (by omega)).1 c)]
      simp
    · rw [if_neg c, if_neg fun h => c ((root_iff hF hE (by omega)).2 h)]
      rfl
theorem rts_num (hF : Fst n (nearL E)) (hE : ∀ e ∈ E, EIn n e) (he : effL (idL n) E) : (rts n (nearL E) n).length + E.length = n := by
  obtain ⟨_, _, r3⟩ := rc_run (E := E) (RI.id n) (M := idL n) (fun _ _ _ _ _ _ => Iff.rfl) (idL_len n) hE
  rw [rts_rc hF hE n (Nat.le_refl _)]
  rw [rc_id n n (Nat.le_refl _)] at r3
  exact r3.2 he
end
section
variable {n : Nat} {near : Int → List Int}
theorem one_root (hF : Fst n near) (h1 : (rts n near n).length = 1) {v : Int} {o p : List Int} (hv : 0 ≤ v ∧ v < n) (hT : Tr n near v o p) : ∀ x : Int, 0 ≤ x ∧ x < n → x ∈ o := by
  obtain ⟨a, ha⟩ : ∃ a, rts n near n = [a] := List.length_eq_one_iff.1 h1
  obtain ⟨r, hr, hvr⟩ := rts_cov hF n (Nat.le_refl _) v hv.1 hv.2
  have hra := rts_rng n near n r hr
  rw [ha] at hr
  have er := List.mem_singleton.1 hr
  have hR := trC_ok hF hra
  have hro : r ∈ o := Classical.byContradiction fun hn => hT.disj hR hF hn v hvr hT.rt
  intro x hx
  obtain ⟨r2, hr2, hxr⟩ := rts_cov hF n (Nat.le_refl _) x hx.1 hx.2
  rw [ha] at hr2
  rw [List.mem_singleton.1 hr2, ← er] at hxr
  obtain ⟨k, k1, k2⟩ := hR.rank
  have key : ∀ (m : Nat) y, y ∈ (trC n near r).1 → k y < m → y ∈ o := by
    intro m
    induction m with
    | zero => intro y _ h; omega
    | succ m ih =>
      intro y hy hm
      by_cases e : y = r
      · rw [e]; exact hro
      · obtain ⟨h1, h2, h3⟩ := k2 y hy e
        exact hT.closed hF (ih _ h1 (by omega)) h3
  exact key (k x + 1) x hxr (by omega)
theorem lab_all (hF : Fst n near) (hn : 0 < n) : ∀ i, i ≤ n → ∀ j : Nat, j < (rts n near i).length → ∃ x : Int, (0 ≤ x ∧ x < n) ∧ geti (labS n near i) x = j
  | 0, _, j, hj => by simp [rts] at hj
  | i + 1, hi, j, hj => by
    have ih := lab_all hF hn i (by omega)
    obtain ⟨m, hL⟩ := labS_ok hF hn i (by omega)
    rw [labS]
    rw [rts] at hj
    by_cases c : ∃ r ∈ rts n near i, (i : Int) ∈ (trC n near r).1
    · rw [if_pos c] at hj ⊢
      exact ih j hj
    · rw [if_neg c] at hj ⊢
      have hT := trC_ok hF (r := (i : Nat)) ⟨by omega, by omega⟩
      have hlen := hL.len
      have hrng : ∀ x ∈ (trC n near (i : Nat)).1, 0 ≤ x ∧ x < (labS n near i).length := fun x hx => by
        have := hT.rng x hx
        rw [hlen]; omega
      simp only [List.length_append, List.length_singleton] at hj
      by_cases cj : j < (rts n near i).length
      · obtain ⟨x, hx, hxj⟩ := ih j cj
        refine ⟨x, hx, ?_⟩
        rw [setT_get _ _ _ hrng x hx.1, if_neg, hxj]
        intro hxo
        obtain ⟨r, hr, hxr⟩ := (hL.cov x hx.1 hx.2).1 (by omega)
        have hr2 := rts_rng n near i r hr
        have hR := trC_ok hF (r := r) ⟨by omega, by omega⟩
        exact hR.disj hT hF (fun hh => c ⟨r, hr, hh⟩) x hxo hxr
      · refine ⟨(i : Nat), ⟨by omega, by omega⟩, ?_⟩
        rw [setT_get _ _ _ hrng _ (by omega), if_pos hT.rt]
        omega
theorem lab_one (hF : Fst n near) (hn : 0 < n) : 1 ∈ labS n near n ↔ (rts n near n).length ≠ 1 := by
  obtain ⟨m, hL⟩ := labS_ok hF hn n (Nat.le_refl _)
  have hm := hL.num
  have hlen := hL.len
  have h0 : 0 < (rts n near n).length := by
    obtain ⟨r, hr, _⟩ := rts_cov hF n (Nat.le_refl _) 0 (by omega) (by omega)
    exact List.length_pos_of_mem hr
  constructor
  · intro h
    obtain ⟨i, hi, e⟩ := List.mem_iff_getElem.1 h
    have e2 : geti (labS n near n) (i : Nat) = 1 := by simp [geti, hi, e]
    have := hL.lt (i : Nat) (by omega) (by omega)
    omega
  · intro h
    obtain ⟨x, hx, e⟩ := lab_all hF hn n (Nat.le_refl _) 1 (by omega)
    have := geti_mem (xs := labS n near n) (i := x) (by omega) (by omega)
    rw [e] at this
    exact this
end
end Go.Proofs.Ytlkhcelodcneiaa
/-
  Paths in a forest: a walk that never turns back is the walk up the tree; searched from the other end it is the same, reversed. No condition.
-/
namespace Go.Proofs.Ytlkhcelodcneiaa
open Go Go.RowKit

/-- A walk to k that never turns back; f is the vertex before. -/
def RW (near : Int → List Int) (k : Int) : Int → List Int → Prop
  | _, [] => False
  | _, [i] => i = k
  | f, i :: j :: l => j ∈ near i ∧ j ≠ f ∧ RW near k i (j :: l)
/-- The walk up to k. -/
def UpW (p : List Int) (k : Int) : List Int → Prop
  | [] => False
  | [i] => i = k
  | i :: j :: l => i ≠ k ∧ geti p i = j ∧ UpW p k (j :: l)
theorem UpW.uniq {p : List Int} {k : Int} : ∀ {l l' : List Int}, UpW p k l → UpW p k l' → l.head? = l'.head? → l = l'
  | [], _, h, _, _ => h.elim
  | _, [], _, h, _ => h.elim
  | [i], [j], h, h', e => by simpa using e
  | [i], j :: j2 :: l', h, h', e => by
    have : i = j := by simpa using e
    subst this
    exact absurd h h'.1
  | i :: i2 :: l, [j], h, h', e => by
    have : i = j := by simpa using e
    subst this
    exact absurd h' h.1
  | i :: i2 :: l, j :: j2 :: l', h, h', e => by
    have : i = j := by simpa using e
    subst this
    obtain ⟨_, h2, h3⟩ := h
    obtain ⟨_, g2, g3⟩ := h'
    rw [h2] at g2
    subst g2
    rw [UpW.uniq h3 g3 rfl]
section
variable {n : Nat} {near : Int → List Int} {k : Int} {o p : List Int}
/-- A walk that never turns back goes up. -/
theorem rw_up (hF : Fst n near) (h : Tr n near k o p) : ∀ {l : List Int} {f : Int}, RW near k f l → UpW p k l ∧ ∀ x ∈ l, x ∈ o
  | [], _, hr => hr.elim
  | [i], _, hr => ⟨hr, fun x hx => by
      rw [List.mem_singleton.1 hx, show i = k from hr]; exact h.rt⟩
  | i :: j :: l, f, hr => by
    obtain ⟨r1, r2, r3⟩ := hr
    obtain ⟨u1, u2⟩ := rw_up hF h r3
    have hj := u2 j (by simp)
    have hi : i ∈ near j := hF.sym _ _ r1
    have hne : i ≠ geti p j := by
      cases l with
      | nil =>
        have e : j = k := u1
        rw [e, h.pr]
        have := (hF.bnd _ _ r1).2.1
        omega
      | cons j2 l =>
        rw [u1.2.1]
        exact fun e => r3.2.1 e.symm
    obtain ⟨c1, c2, c3⟩ := h.ch hj hi hne
    refine ⟨⟨c2, c3, u1⟩, fun x hx => ?_⟩
    rcases List.mem_cons.1 hx with rfl | hx
    · exact c1
    · exact u2 x hx
/-- The walk up from a vertex of the tree. -/
theorem up_ex (h : Tr n near k o p) {i : Int} (hi : i ∈ o) : ∃ l, UpW p k l ∧ l.head? = some i ∧ (∀ x ∈ l, x ∈ o) ∧ l.length ≤ n := by
  obtain ⟨q, q1, q2⟩ := h.rank
  have key : ∀ (m : Nat) (i : Int), i ∈ o → q i ≤ m → ∃ l, UpW p k l ∧ l.head? = some i ∧ (∀ x ∈ l, x ∈ o) ∧ l.length ≤ m + 1 := by
    intro m
    induction m with
    | zero =>
      intro i hi hm
      by_cases e : i = k
      · exact ⟨[i], e, rfl, fun x hx => by rw [List.mem_singleton.1 hx]; exact hi, by simp⟩
      · have := (q2 i hi e).2.1; omega
    | succ m ih =>
      intro i hi hm
      by_cases e : i = k
      · exact ⟨[i], e, rfl, fun x hx => by rw [List.mem_singleton.1 hx]; exact hi, by simp⟩
      · obtain ⟨a1, a2, a3⟩ := q2 i hi e
        obtain ⟨l, l1, l2, l3, l4⟩ := ih _ a1 (by omega)
        cases l with
        | nil => exact l1.elim
        | cons j l =>
          have : j = geti p i := by simpa using l2
          refine ⟨i :: j :: l, ⟨e, this.symm, l1⟩, rfl, fun x hx => ?_, by simp at l4 ⊢; omega⟩
          rcases List.mem_cons.1 hx with rfl | hx
          · exact hi
          · exact l3 x hx
  have := q1 i hi
  obtain ⟨l, l1, l2, l3, l4⟩ := key (n - 1) i hi (by omega)
  exact ⟨l, l1, l2, l3, by omega⟩
/-- The walk up never turns back. -/
theorem up_rw (hF : Fst n near) (h : Tr n near k o p) : ∀ {l : List Int} {f : Int}, UpW p k l → (∀ x ∈ l, x ∈ o) → (∀ i, l.head? = some i → i ≠ k → geti p i ≠ f) → RW near k f l
  | [], _, hu, _, _ => hu.elim
  | [i], _, hu, _, _ => hu
  | i :: j :: l, f, hu, ho, hf => by
    obtain ⟨u1, u2, u3⟩ := hu
    have hi := ho i (by simp)
    obtain ⟨q, q1, q2⟩ := h.rank
    obtain ⟨a1, a2, a3⟩ := q2 i hi u1
    refine ⟨?_, ?_, up_rw hF h u3 (fun x hx => ho x (List.mem_cons_of_mem _ hx)) fun j' hj' hjk e => ?_⟩
    · rw [← u2]; exact hF.sym _ _ a3
    · rw [← u2]; exact hf i rfl u1
    · have hj : j' = j := by simpa using hj'.symm
      rw [hj] at e hjk
      have := (q2 j (by rw [← u2]; exact a1) hjk).2.1
      rw [e, ← u2] at this
      omega
end
/-! ### The search -/
def pfL (rec : Int → Option (List Int)) (i f : Int) : List Int → Option (List Int)
  | [] => none
  | j :: js => if j = f then pfL rec i f js else match rec j with
    | some l => some (i :: l)
    | none => pfL rec i f js
def pf (near : Int → List Int) (k : Int) : Nat → Int → Int → Option (List Int)
  | 0, _, _ => none
  | m + 1, i, f => if i = k then some [i] else pfL (fun j => pf near k m j i) i f (near i)
/-- How deep a search goes. -/
def Dp (near : Int → List Int) : Nat → Int → Int → Prop
  | 0, _, _ => False
  | m + 1, i, f => ∀ j ∈ near i, j ≠ f → Dp near m j i
theorem pfL_some {rec : Int → Option (List Int)} {i f : Int} : ∀ {js l : List Int}, pfL rec i f js = some l → ∃ j ∈ js, j ≠ f ∧ ∃ l', rec j = some l' ∧ l = i :: l'
  | [], _, h => by cases h
  | j :: js, l, h => by
    rw [pfL] at h
    by_cases e : j = f
    · rw [if_pos e] at h
      obtain ⟨j', h1, h2⟩ := pfL_some h
      exact ⟨j', List.mem_cons_of_mem _ h1, h2⟩
    · rw [if_neg e] at h
      cases hr : rec j with
      | some l' => rw [hr] at h; exact ⟨j, by simp, e, l', hr, (Option.some.inj h).symm⟩
      | none =>
        rw [hr] at h
        obtain ⟨j', h1, h2⟩ := pfL_some h
        exact ⟨j', List.mem_cons_of_mem _ h1, h2⟩
theorem pfL_ne {rec : Int → Option (List Int)} {i f : Int} : ∀ {js : List Int}, (∃ j ∈ js, j ≠ f ∧ rec j ≠ none) → pfL rec i f js ≠ none
  | [], h => by obtain ⟨j, hj, _⟩ := h; cases hj
  | j :: js, h => by
    obtain ⟨j', h1, h2, h3⟩ := h
    rw [pfL]
    by_cases e : j = f
    · rw [if_pos e]
      rcases List.mem_cons.1 h1 with rfl | h1
      · exact absurd e h2
      · exact pfL_ne ⟨j', h1, h2, h3⟩
    · rw [if_neg e]
      cases hr : rec j with
      | some l => simp
      | none =>
        rcases List.mem_cons.1 h1 with rfl | h1
        · exact absurd hr h3
        · exact pfL_ne ⟨j', h1, h2, h3⟩
section
variable {n : Nat} {near : Int → List Int} {k : Int} {o p : List Int}
theorem pf_rw : ∀ {m : Nat} {i f : Int} {l : List Int}, pf near k m i f = some l → RW near k f l ∧ l.head? = some i ∧ l.length ≤ m
  | 0, _, _, _, h => by cases h
  | m + 1, i, f, l, h => by
    rw [pf] at h
    by_cases e : i = k
    · rw [if_pos e] at h
      obtain rfl := Option.some.inj h
      exact ⟨e, rfl, by simp⟩
    · rw [if_neg e] at h
      obtain ⟨j, j1, j2, l', h1, rfl⟩ := pfL_some h
      obtain ⟨r1, r2, r3⟩ := pf_rw h1
      cases l' with
      | nil => exact r1.elim
      | cons j' l' =>
        have : j' = j := by simpa using r2
        subst this
        exact ⟨⟨j1, j2, r1⟩, rfl, by simp at r3 ⊢; omega⟩
theorem rw_pf : ∀ {m : Nat} {i f : Int} {l : List Int}, RW near k f l → l.head? = some i → Dp near m i f → pf near k m i f ≠ none
  | 0, _, _, _, _, _, h => h.elim
  | m + 1, i, f, l, hr, hi, hd => by
    rw [pf]
    by_cases e : i = k
    · rw [if_pos e]; simp
    · rw [if_neg e]
      match l, hr, hi with
      | [j], hr, hi =>
        have : j = i := by simpa using hi
        exact absurd (this ▸ hr) e
      | j :: j2 :: l, hr, hi =>
        have : j = i := by simpa using hi
        subst this
        exact pfL_ne ⟨j2, hr.1, hr.2.1, rw_pf hr.2.2 rfl (hd j2 hr.1 hr.2.1)⟩
theorem dp_tree (h : Tr n near k o p) : Dp near n k (-1) := by
  obtain ⟨q, q1, q2⟩ := h.rank
  have key : ∀ (m : Nat) (v : Int), v ∈ o → n - q v ≤ m → Dp near m v (geti p v) := by
    intro m
    induction m with
    | zero =>
      intro v hv hm
      have := q1 v hv; omega
    | succ m ih =>
      intro v hv hm j hj hne
      obtain ⟨c1, c2, c3⟩ := h.ch hv hj hne
      have := (q2 j c1 c2).2.1
      rw [c3] at this
      have hk := ih j c1 (by have := q1 j c1; omega)
      rwa [c3] at hk
  have := key n k h.rt (by omega)
  rwa [h.pr] at this
/-- What the search finds. -/
theorem pf_eq (hF : Fst n near) {i : Int} (hi : 0 ≤ i ∧ i < n) (h : Tr n near k o p) {l : List Int} (hl : UpW p k l) (hh : l.head? = some i) (ho : ∀ x ∈ l, x ∈ o) : pf near k n i (-1) = some l := by
  obtain ⟨o2, p2, h2⟩ := tree_ex hF hi
  have hr : RW near k (-1) l := up_rw hF h hl ho fun j hj hjk e => by
    have hj' : j = i := by rw [hh] at hj; exact (Option.some.inj hj).symm
    rw [hj'] at e hjk
    obtain ⟨q, q1, q2⟩ := h.rank
    have hio : i ∈ o := ho i (by cases l with
      | nil => cases hh
      | cons a l => simp at hh; simp [hh])
    have := h.rng _ (q2 i hio hjk).1
    rw [e] at this; omega
  have hne := rw_pf hr hh (dp_tree h2)
  cases e : pf near k n i (-1) with
  | none => exact absurd e hne
  | some l' =>
    obtain ⟨r1, r2, _⟩ := pf_rw e
    rw [(rw_up hF h r1).1.uniq hl (by rw [r2, hh])]
theorem pf_no (hF : Fst n near) {i : Int} (h : Tr n near k o p) (hi : i ∉ o) : pf near k n i (-1) = none := by
  cases e : pf near k n i (-1) with
  | none => rfl
  | some l =>
    obtain ⟨r1, r2, _⟩ := pf_rw e
    refine absurd ((rw_up hF h r1).2 i ?_) hi
    cases l with
    | nil => cases r2
    | cons a l => simp at r2; simp [r2]
/-! ### The other way -/
end
end Go.Proofs.Ytlkhcelodcneiaa
/-
  The vertices behind a neighbour: marked by search, told by the path. No condition.
-/
namespace Go.Proofs.Ytlkhcelodcneiaa
open Go Go.RowKit

/-- One neighbour after the other. -/
def mkL (rec : Int → List Bool → List Bool) (f : Int) : List Int → List Bool → List Bool
  | [], K => K
  | k :: ks, K => mkL rec f ks (if k = f then K else rec k K)
/-- The marks set by the search from i, where f was the vertex before. -/
def mk (near : Int → List Int) : Nat → Int → Int → List Bool → List Bool
  | 0, _, _, K => K
  | m + 1, i, f, K => mkL (fun k K => mk near m k i K) f (near i) (K.set i.toNat true)
theorem mkL_app (rec : Int → List Bool → List Bool) (f : Int) : ∀ (a b : List Int) (K : List Bool), mkL rec f (a ++ b) K = mkL rec f b (mkL rec f a K)
  | [], _, _ => rfl
  | k :: a, b, K => by rw [List.cons_append, mkL, mkL, mkL_app rec f a b]
theorem mkL_len {rec : Int → List Bool → List Bool} {f : Int} (h : ∀ k K, (rec k K).length = K.length) : ∀ (ks : List Int) (K : List Bool), (mkL rec f ks K).length = K.length
  | [], _ => rfl
  | k :: ks, K => by
    rw [mkL, mkL_len h ks]
    split
    · rfl
    · exact h k K
theorem mk_len (near : Int → List Int) : ∀ (m : Nat) (i f : Int) (K : List Bool), (mk near m i f K).length = K.length
  | 0, _, _, _ => rfl
  | m + 1, i, f, K => by rw [mk, mkL_len (fun k K => mk_len near m k i K), List.length_set]
section
variable {n : Nat} {near : Int → List Int} {r : Int} {o p : List Int}
theorem mk_get (h : Tr n near r o p) : ∀ (q : Int → Nat), (∀ x ∈ o, q x < n) → (∀ x ∈ o, x ≠ r → geti p x ∈ o ∧ q (geti p x) < q x ∧ x ∈ near (geti p x)) →
    ∀ (m : Nat) (i : Int) (K : List Bool), i ∈ o → n - q i ≤ m → K.length = n → ∀ x : Nat, x < n → ((mk near m i (geti p i) K).getD x false = true ↔ K.getD x false = true ∨ Dsc r o p i (x : Nat)) := by
  intro q q1 q2 m
  induction m with
  | zero => intro i K hi hm; have := q1 i hi; omega
  | succ m ih =>
    intro i K hi hm hK x hx
    have hir := h.rng i hi
    rw [mk]
    have key : ∀ (ks : List Int) (K : List Bool), (∀ k ∈ ks, k ∈ near i) → K.length = n → ((mkL (fun k K => mk near m k i K) (geti p i) ks K).getD x false = true ↔ K.getD x false = true ∨ ∃ k ∈ ks, k ≠ geti p i ∧ Dsc r o p k (x : Nat)) := by
      intro ks
      induction ks with
      | nil => intro K _ _; simp [mkL]
      | cons k ks ih2 =>
        intro K hks hK
        rw [mkL]
        by_cases c : k = geti p i
        · rw [if_pos c, ih2 K (fun y hy => hks y (List.mem_cons_of_mem _ hy)) hK]
          constructor
          · rintro (h1 | ⟨y, h1, h2⟩)
            · exact .inl h1
            · exact .inr ⟨y, List.mem_cons_of_mem _ h1, h2⟩
          · rintro (h1 | ⟨y, h1, h2, h3⟩)
            · exact .inl h1
            · rcases List.mem_cons.1 h1 with rfl | h1
              · exact absurd c h2
              · exact .inr ⟨y, h1, h2, h3⟩
        · obtain ⟨c1, c2, c3⟩ := h.ch hi (hks k (by simp)) c
          have hlt := (q2 k c1 c2).2.1
          rw [c3] at hlt
          have e := ih k K c1 (by have := q1 k c1; omega) hK x hx
          rw [c3] at e
          rw [if_neg c, ih2 _ (fun y hy => hks y (List.mem_cons_of_mem _ hy)) (by rw [mk_len]; exact hK), e]
          constructor
          · rintro ((h1 | h1) | ⟨y, h1, h2⟩)
            · exact .inl h1
            · exact .inr ⟨k, by simp, c, h1⟩
            · exact .inr ⟨y, List.mem_cons_of_mem _ h1, h2⟩
          · rintro (h1 | ⟨y, h1, h2, h3⟩)
            · exact .inl (.inl h1)
            · rcases List.mem_cons.1 h1 with rfl | h1
              · exact .inl (.inr h3)
              · exact .inr ⟨y, h1, h2, h3⟩
    rw [key (near i) _ (fun k hk => hk) (by rw [List.length_set]; exact hK)]
    have hset : (K.set i.toNat true).getD x false = true ↔ K.getD x false = true ∨ (x : Int) = i := by
      rw [List.getD_eq_getElem?_getD, List.getElem?_set, List.getD_eq_getElem?_getD]
      by_cases c : i.toNat = x
      · rw [if_pos c, if_pos (by omega)]
        simp
        omega
      · rw [if_neg c]
        constructor
        · exact fun h => .inl h
        · rintro (h | h)
          · exact h
          · omega
    rw [hset]
    constructor
    · rintro ((h1 | h1) | ⟨k, h1, h2, h3⟩)
      · exact .inl h1
      · rw [h1]; exact .inr (.refl hi)
      · exact .inr (Dsc.child h hi (List.mem_filter.2 ⟨h1, decide_eq_true h2⟩) h3)
    · rintro (h1 | h1)
      · exact .inl (.inl h1)
      · rcases Dsc.cases h h1 with h2 | ⟨c, hc, hd⟩
        · exact .inl (.inr h2)
        · obtain ⟨hc1, hc2⟩ := List.mem_filter.1 hc
          exact .inr ⟨c, hc1, of_decide_eq_true hc2, hd⟩
/-- The walk up from i passes the vertex behind the root last but one. -/
theorem up_last (h : Tr n near r o p) : ∀ {l : List Int}, UpW p r l → (∀ x ∈ l, x ∈ o) → ∀ i, l.head? = some i → i ≠ r → ∃ c, geti l ((l.length : Int) - 2) = c ∧ c ∈ chl near p r ∧ Dsc r o p c i ∧ 2 ≤ l.length
  | [], hu, _, _, _, _ => hu.elim
  | [j], hu, _, i, hi, hne => by
    have : j = i := by simpa using hi
    exact absurd (this ▸ hu) hne
  | [i, j], hu, ho, i', hi, hne => by
    have e : i = i' := by simpa using hi
    subst e
    obtain ⟨u1, u2, u3⟩ := hu
    have e2 : j = r := u3
    subst e2
    obtain ⟨k, k1, k2⟩ := h.rank
    have hio := ho i (by simp)
    obtain ⟨a1, a2, a3⟩ := k2 i hio u1
    refine ⟨i, rfl, List.mem_filter.2 ⟨by rw [← u2]; rw [u2]; rw [u2] at a3; exact a3, decide_eq_true ?_⟩, .refl hio, by simp⟩
    rw [h.pr]
    have := h.rng i hio
    omega
  | i :: j :: j2 :: l, hu, ho, i', hi, hne => by
    have e : i = i' := by simpa using hi
    subst e
    obtain ⟨u1, u2, u3⟩ := hu
    obtain ⟨c, c1, c2, c3, c4⟩ := up_last h u3 (fun x hx => ho x (List.mem_cons_of_mem _ hx)) j rfl u3.1
    refine ⟨c, ?_, c2, .up (ho i (by simp)) u1 (by rw [u2]; exact c3), by simp⟩
    rw [← c1]
    simp only [geti, List.length_cons]
    have e1 : (((l.length + 1 + 1 + 1 : Nat) : Int) - 2).toNat = (((l.length + 1 + 1 : Nat) : Int) - 2).toNat + 1 := by omega
    rw [e1, List.getD_cons_succ]
/-- Behind w: by the walk up. -/
theorem behind_iff (h : Tr n near r o p) {w i : Int} (hw : w ∈ near r) (hF : Fst n near) {l : List Int} (hl : UpW p r l) (ho : ∀ x ∈ l, x ∈ o) (hi : l.head? = some i) (hne : i ≠ r) : geti l ((l.length : Int) - 2) = w ↔ Dsc r o p w i := by
  obtain ⟨c, c1, c2, c3, _⟩ := up_last h hl ho i hi hne
  have hwc : w ∈ chl near p r := List.mem_filter.2 ⟨hw, decide_eq_true (by rw [h.pr]; have := (hF.bnd _ _ hw).1; omega)⟩
  rw [c1]
  constructor
  · rintro rfl; exact c3
  · exact fun hd => Dsc.disj h h.rt c2 hwc c3 hd
end
end Go.Proofs.Ytlkhcelodcneiaa
/-
  Whether an own slice is not nil; whether nil is not. No condition.
-/
namespace Go.Proofs.Ytlkhcelodcneiaa
open Go Go.RowKit
set_option linter.unusedVariables false
section
variable {P : Program} {env : Env} {os : List AO} {d : Option Tmp} {ty : TypeId} {pos : String} {af : Array Edge} {g : Option (Nat × Bool)} {wl : Bool}
end
section
variable {P : Program} {env : Env} {os : List AO} {d : Tmp} {ty : TypeId} {pos : String} {af : Array Edge} {g : Option (Nat × Bool)} {l rest : List Oper} {K : APost} {q : Md}
end
end Go.Proofs.Ytlkhcelodcneiaa
/-
  The search for a path, walked. Condition: a forest.
-/
namespace Go.Proofs.Ytlkhcelodcneiaa
open Go Go.RowKit
attribute [local irreducible] AWp AOps ResIs Ret1 QOp LOp COp AFnV AFn Imms LeE LeO
set_option maxHeartbeats 1000000
set_option linter.unusedSimpArgs false
set_option linter.unusedVariables false

/-- A path or nil. -/
def PfQ (T : TypeId) (res : Option (List Int)) (r : AV) (os : List AO) : Prop := match res with
  | none => r = .val (.slice none 0 0) ∧ os = []
  | some l => r = .own 0 ∧ os = [.sli T l]
end Go.Proofs.Ytlkhcelodcneiaa
/-
  The path up a tree, and paths between two vertices, walked. Condition: a forest.
-/
namespace Go.Proofs.Ytlkhcelodcneiaa
open Go Go.RowKit
attribute [local irreducible] AWp AOps ResIs Ret1 QOp LOp COp AFnV AFn Imms LeE LeO
set_option maxHeartbeats 1000000
set_option linter.unusedSimpArgs false
set_option linter.unusedVariables false

/-- The first index, or -1. -/
def ixJ (n : Int) : List Int → Nat → Int
  | [], _ => -1
  | x :: xs, j => if x = n then j else ixJ n xs (j + 1)
theorem ixJ_mem (n : Int) : ∀ (xs : List Int) (j : Nat), decide (0 ≤ ixJ n xs j) = decide (n ∈ xs)
  | [], j => by simp [ixJ]
  | x :: xs, j => by
    rw [ixJ]
    split
    · rename_i e
      simp [e]
    · rename_i e
      rw [ixJ_mem n xs (j + 1)]
      simp [Ne.symm e]
theorem l01Ix_c (xs : List Int) (n : Int) (hl : xs.length ≤ 1000000) : AFnV Try.prog 26 [.ints xs, .i n] (.int .i64 (ixJ n xs 0)) := by
  (refine AFnV.start Try.func26 Try.ntmps26 rfl (by kernel_rfl) fun hk => ?_; simp only [Env.start, enumF, List.length_cons, List.length_nil, Nat.reduceAdd, Nat.reduceSub, List.cons_append, List.nil_append])
  repeat' (first | (apply AOps.nil; try simp only [List.nil_append, List.cons_append, List.set_cons_zero, List.set_cons_succ, List.length_cons, List.length_nil, Nat.reduceAdd, AV.sh, AV.sh1, AV.sh0, AO.sh, List.map_cons, List.map_nil, Nat.zero_add, Nat.add_zero, setAll]) | (apply w_assign; exact rfl; exact rfl) | apply AWp.seq | apply AWp.region | apply AWp.block)
  refine AWp.loop (ι := Nat) (fun i => ⟨19, [(0, .ints xs), (1, .i n), (5, .i i)]⟩) (fun _ => []) (fun i => i ≤ xs.length ∧ ixJ n (xs.drop i) i = ixJ n xs 0) (fun i => xs.length - i) 0 ⟨Nat.zero_le _, by simp⟩ ⟨lee rfl (by (repeat (first | exact le_nil | refine le_eq rfl rfl ?_))), by (repeat (exact lo_nil)), rfl, rfl⟩ ?_
  rintro i ⟨i0, i1⟩
  by_cases hi : i < xs.length
  · have e : xs[i] = geti xs (i : Nat) := by simp [geti, hi]
    rw [List.drop_eq_getElem_cons hi, e, ixJ] at i1
    by_cases he : geti xs (i : Nat) = n
    · rw [if_pos he] at i1
      rw [← i1]
      repeat' (first | (apply AOps.nil; try simp only [List.nil_append, List.cons_append, List.set_cons_zero, List.set_cons_succ, List.length_cons, List.length_nil, Nat.reduceAdd, AV.sh, AV.sh1, AV.sh0, AO.sh, List.map_cons, List.map_nil, Nat.zero_add, Nat.add_zero, setAll]) | (apply w_move; exact rfl; exact rfl) | (apply w_assign; exact rfl; exact rfl) | apply AWp.seq | apply AWp.region | ((apply AWp.condP; exact rfl) <;> intro h) | apply AWp.block | apply AWp.ret | apply AWp.exit | apply AWp.skip | (apply w_len; exact rfl; exact rfl; first | exact .ints _ | exact .intss _ | exact .sli rfl | exact .sls rfl | exact .slr rfl | exact .orow rfl | exact .nil) | omega | ((first | apply w_lss | apply w_eql | apply w_idx | apply w_ld); iterate 3 exact rfl))
      all_goals exact .int Try.results26 rfl rfl
    · rw [if_neg he] at i1
      repeat' (first | (apply AOps.nil; try simp only [List.nil_append, List.cons_append, List.set_cons_zero, List.set_cons_succ, List.length_cons, List.length_nil, Nat.reduceAdd, AV.sh, AV.sh1, AV.sh0, AO.sh, List.map_cons, List.map_nil, Nat.zero_add, Nat.add_zero, setAll]) | (apply w_move; exact rfl; exact rfl) | (apply w_assign; exact rfl; exact rfl) | apply AWp.seq | apply AWp.region | ((apply AWp.condP; exact rfl) <;> intro h) | apply AWp.block | apply AWp.ret | apply AWp.exit | apply AWp.skip | (apply w_len; exact rfl; exact rfl; first | exact .ints _ | exact .intss _ | exact .sli rfl | exact .sls rfl | exact .slr rfl | exact .orow rfl | exact .nil) | omega | ((first | apply w_lss | apply w_eql | apply w_add | apply w_idx | apply w_ld); iterate 3 exact rfl) | (apply inI_of <;> omega))
      exact ⟨i + 1, ⟨by omega, i1⟩, by omega, ⟨lee rfl (by (repeat (first | exact le_nil | refine le_eq rfl rfl ?_))), by (repeat (exact lo_nil)), rfl, rfl⟩⟩
  · obtain rfl : i = xs.length := by omega
    rw [List.drop_length, ixJ] at i1
    rw [← i1]
    repeat' (first | (apply AOps.nil; try simp only [List.nil_append, List.cons_append, List.set_cons_zero, List.set_cons_succ, List.length_cons, List.length_nil, Nat.reduceAdd, AV.sh, AV.sh1, AV.sh0, AO.sh, List.map_cons, List.map_nil, Nat.zero_add, Nat.add_zero, setAll]) | (apply w_move; exact rfl; exact rfl) | (apply w_assign; exact rfl; exact rfl) | apply AWp.seq | apply AWp.region | ((apply AWp.condP; exact rfl) <;> intro h) | apply AWp.block | apply AWp.ret | apply AWp.exit | apply AWp.skip | (apply w_len; exact rfl; exact rfl; first | exact .ints _ | exact .intss _ | exact .sli rfl | exact .sls rfl | exact .slr rfl | exact .orow rfl | exact .nil) | omega | ((apply w_lss); iterate 3 exact rfl))
    all_goals exact .int Try.results26 rfl rfl
theorem l01Hs_c (xs : List Int) (n : Int) (hl : xs.length ≤ 1000000) : AFnV Try.prog 12 [.ints xs, .i n] (.bool (decide (n ∈ xs))) := by
  have hi := l01Ix_c xs n hl
  (refine AFnV.start Try.func12 Try.ntmps12 rfl (by kernel_rfl) fun hk => ?_; simp only [Env.start, enumF, List.length_cons, List.length_nil, Nat.reduceAdd, Nat.reduceSub, List.cons_append, List.nil_append])
  repeat' (first | (apply AOps.nil; try simp only [List.nil_append, List.cons_append, List.set_cons_zero, List.set_cons_succ, List.length_cons, List.length_nil, Nat.reduceAdd, AV.sh, AV.sh1, AV.sh0, AO.sh, List.map_cons, List.map_nil, Nat.zero_add, Nat.add_zero, setAll]) | (apply w_move; exact rfl; exact rfl) | (apply w_assign; exact rfl; exact rfl) | apply AWp.seq | apply AWp.region | apply AWp.ret | (apply w_call (hi); exact rfl; exact rfl; focus ((repeat (first | exact im_nil | refine im_cons rfl (.val _) ?_ | refine im_cons rfl (.ints _) ?_)); done)) | ((apply w_geq); iterate 3 exact rfl))
  exact .bool Try.results12 rfl (ixJ_mem n xs 0)
/-- The walk up, by places. -/
theorem upw_at {p : List Int} {k : Int} : ∀ {U : List Int}, UpW p k U → 0 < U.length ∧ geti U ((U.length - 1 : Nat) : Int) = k ∧ ∀ a : Nat, a + 1 < U.length → geti U (a : Nat) ≠ k ∧ geti p (geti U (a : Nat)) = geti U ((a + 1 : Nat) : Int)
  | [], h => h.elim
  | [i], h => ⟨by simp, h, fun a ha => by simp at ha⟩
  | i :: j :: l, h => by
    obtain ⟨h1, h2, h3⟩ := h
    obtain ⟨g1, g2, g3⟩ := upw_at h3
    refine ⟨by simp, ?_, fun a ha => ?_⟩
    · have e : geti (i :: j :: l) (((i :: j :: l).length - 1 : Nat) : Int) = geti (j :: l) (((j :: l).length - 1 : Nat) : Int) := by
        simp [geti]
      rw [e]; exact g2
    · cases a with
      | zero => exact ⟨h1, h2⟩
      | succ a => exact g3 a (by simp at ha ⊢; omega)
set_option maxHeartbeats 8000000 in
theorem l11Path_c (W : List Int) (E : List (List Int)) (h : GrF W E) (i k : Int) (hi : 0 ≤ i ∧ i < W.length) (hk : 0 ≤ k ∧ k < W.length) :
    AFn Try.prog 27 [.agg [.ints W, .intss E], .i i, .i k] (PfQ 2 (pf (nearL E) k W.length i (-1))) := by
  have hWn := h.n
  have hF := h.fo.fst
  have ho := l11Order_c W E h k hk
  (refine AFn.start Try.func27 Try.ntmps27 rfl (by kernel_rfl) fun hk => ?_; simp only [Env.start, enumF, List.length_cons, List.length_nil, Nat.reduceAdd, Nat.reduceSub, List.cons_append, List.nil_append])
  repeat' (first | (apply AOps.nil; try simp only [List.nil_append, List.cons_append, List.set_cons_zero, List.set_cons_succ, List.length_cons, List.length_nil, Nat.reduceAdd, AV.sh, AV.sh1, AV.sh0, AO.sh, List.map_cons, List.map_nil, Nat.zero_add, Nat.add_zero, setAll]) | (apply w_move; exact rfl; exact rfl) | (apply w_assign; exact rfl; exact rfl) | apply AWp.seq | apply AWp.region | (apply w_callc [] (ho); exact rfl; (exact handed0); (focus ((repeat (first | exact imu_nil | refine imu_cons rfl (imu_agg2 (.ints _) (.intss _)) ?_ | refine imu_cons rfl (.val _) ?_)); done)); rintro r os0 ⟨rfl, o, p, hT, rfl⟩; try simp only [List.nil_append, List.cons_append, List.set_cons_zero, List.set_cons_succ, List.length_cons, List.length_nil, Nat.reduceAdd, AV.sh, AV.sh1, AV.sh0, AO.sh, List.map_cons, List.map_nil, Nat.zero_add, Nat.add_zero, setAll]) | ((apply w_ext); iterate 3 exact rfl) | ((apply w_boxa); iterate 2 exact rfl) | (apply w_ldst; iterate 5 exact rfl))
  have hol := hT.bd
  have hpl := hT.len
  have hhas := l01Hs_c o i (by omega)
  by_cases hio : i ∈ o
  · rw [decide_eq_true hio] at hhas
    obtain ⟨U, u1, u2, u3, u4⟩ := up_ex hT hio
    rw [pf_eq hF hi hT u1 u2 u3]
    obtain ⟨g1, g2, g3⟩ := upw_at u1
    have hU0 : geti U 0 = i := by
      cases U with
      | nil => cases u2
      | cons a U => simp at u2; simp [geti, u2]
    repeat' (first | (apply AOps.nil; try simp only [List.nil_append, List.cons_append, List.set_cons_zero, List.set_cons_succ, List.length_cons, List.length_nil, Nat.reduceAdd, AV.sh, AV.sh1, AV.sh0, AO.sh, List.map_cons, List.map_nil, Nat.zero_add, Nat.add_zero, setAll]) | (apply w_move; exact rfl; exact rfl) | (apply w_assign; exact rfl; exact rfl) | apply AWp.seq | apply AWp.region | (apply AWp.condF; exact rfl) | apply AWp.block | apply AWp.skip | (apply w_call (hhas); exact rfl; exact rfl; focus ((repeat (first | exact im_nil | refine im_cons rfl (.val _) ?_ | refine im_cons rfl (.sli rfl) ?_)); done)) | ((first | apply w_not | apply w_bs1); iterate 2 exact rfl) | (apply inI_of <;> omega))
    refine AWp.loop (ι := Nat) (fun a => ⟨36, [(2, .i k), (8, .own 2), (9, .own 3), (10, .i (geti U (a : Nat)))]⟩) (fun a => [.bx 29 [.ints W, .intss E], .sli 2 o, .sli 2 p, .sli 2 (U.take (a + 1))]) (fun a => a < U.length) (fun a => U.length - a) 0 g1 ?_ ?_
    · have hT1 : U.take (0 + 1) = [i] := by
        cases U with
        | nil => cases u2
        | cons a U => simp at u2; simp [u2]
      rw [hT1]
      exact ⟨lee rfl (by (repeat (first | exact le_nil | refine le_eq rfl rfl ?_ | refine le_eq rfl (congrArg AV.i (hU0.symm)) ?_))), by (repeat (first | exact lo_nil | refine lo_eq rfl ?_)), rfl, rfl⟩
    intro a ha
    by_cases ha2 : a + 1 < U.length
    · obtain ⟨q1, q2⟩ := g3 a ha2
      have hrg := hT.rng _ (u3 _ (geti_mem (xs := U) (i := (a : Nat)) (by omega) (by omega)))
      have hrg2 := hT.rng _ (u3 _ (geti_mem (xs := U) (i := ((a + 1 : Nat) : Int)) (by omega) (by omega)))
      have e3 : geti p ((geti U (a : Nat)).toNat : Nat) = geti U ((a + 1 : Nat) : Int) := q2
      have e4 : U.take (a + 1) ++ [geti U ((a + 1 : Nat) : Int)] = U.take (a + 1 + 1) := by
        rw [List.take_succ_eq_append_getElem ha2]
        simp [geti, ha2]
      repeat' (first | (apply AOps.nil; try simp only [List.nil_append, List.cons_append, List.set_cons_zero, List.set_cons_succ, List.length_cons, List.length_nil, Nat.reduceAdd, AV.sh, AV.sh1, AV.sh0, AO.sh, List.map_cons, List.map_nil, Nat.zero_add, Nat.add_zero, setAll]) | (apply w_move; exact rfl; exact rfl) | (apply w_assign; exact rfl; exact rfl) | apply AWp.seq | apply AWp.region | ((apply AWp.condP; exact rfl) <;> intro h) | apply AWp.block | apply AWp.ret | apply AWp.exit | apply AWp.skip | omega | ((first | apply w_neq | apply w_idx | apply w_ld); iterate 3 exact rfl) | ((apply w_bs1); iterate 2 exact rfl) | (apply w_idxo; exact rfl; exact rfl; (exact .sli rfl); exact rfl) | (apply w_ldo; iterate 4 exact rfl) | (apply w_app; exact rfl; exact rfl; exact rfl; exact rfl; (exact .sli rfl); rotate_left 1; simp only [Env.mp, List.map_cons, List.map_nil, List.set_cons_zero, List.set_cons_succ, AV.kill, AV.kill1, AO.kill, AV.noRow, AV.noRow1, AO.via, reduceIte, Nat.reduceEqDiff, Nat.reduceLT, Env.up, Nat.zero_ne_one, Nat.one_ne_zero, Nat.reduceAdd, List.cons_append, List.nil_append]; rotate_left 1) | (apply inI_of <;> omega) | (simp <;> omega))
      rw [e3, e4]
      exact ⟨a + 1, by omega, by omega, ⟨lee rfl (by (repeat (first | exact le_nil | refine le_eq rfl rfl ?_))), by (repeat (first | exact lo_nil | refine lo_eq rfl ?_)), rfl, rfl⟩⟩
    · obtain rfl : a = U.length - 1 := by omega
      have e5 : U.take (U.length - 1 + 1) = U := List.take_of_length_le (by omega)
      rw [e5]
      repeat' (first | (apply AOps.nil; try simp only [List.nil_append, List.cons_append, List.set_cons_zero, List.set_cons_succ, List.length_cons, List.length_nil, Nat.reduceAdd, AV.sh, AV.sh1, AV.sh0, AO.sh, List.map_cons, List.map_nil, Nat.zero_add, Nat.add_zero, setAll]) | (apply w_move; exact rfl; exact rfl) | (apply w_assign; exact rfl; exact rfl) | apply AWp.seq | apply AWp.region | ((apply AWp.condP; exact rfl) <;> intro h) | apply AWp.block | apply AWp.ret | apply AWp.exit | apply AWp.skip | omega | ((apply w_neq); iterate 3 exact rfl))
      all_goals exact ⟨_, _, _, .v1 Try.results27 rfl, .sli rfl, rfl, rfl⟩
  · rw [decide_eq_false hio] at hhas
    rw [pf_no hF hT hio]
    repeat' (first | (apply AOps.nil; try simp only [List.nil_append, List.cons_append, List.set_cons_zero, List.set_cons_succ, List.length_cons, List.length_nil, Nat.reduceAdd, AV.sh, AV.sh1, AV.sh0, AO.sh, List.map_cons, List.map_nil, Nat.zero_add, Nat.add_zero, setAll]) | (apply w_assign; exact rfl; exact rfl) | apply AWp.seq | apply AWp.region | (apply AWp.condT; exact rfl) | apply AWp.ret | (apply w_call (hhas); exact rfl; exact rfl; focus ((repeat (first | exact im_nil | refine im_cons rfl (.val _) ?_ | refine im_cons rfl (.sli rfl) ?_)); done)) | ((apply w_not); iterate 2 exact rfl))
    all_goals exact ⟨_, _, _, .v1 Try.results27 rfl, .val _, rfl, rfl⟩
end Go.Proofs.Ytlkhcelodcneiaa
/-
  A literal slice of one row, as an own slice of rows. No condition.
-/
namespace Go.Proofs.Ytlkhcelodcneiaa
open Go Go.RowKit
section
variable {P : Program} {env : Env} {os : List AO} {d : Option Tmp} {ty : TypeId} {pos : String} {af : Array Edge} {g : Option (Nat × Bool)}

end
section
variable {P : Program} {env : Env} {os : List AO} {d : Tmp} {ty : TypeId} {pos : String} {af : Array Edge} {l rest : List Oper} {K : APost}
end
section
variable {P : Program} {N : APost} {X : Nat → APost} {Rt : APost} {env : Env} {os : List AO}
/-- A loop whose rounds may number the objects anew. -/
theorem AWp.loopS {c : Code} {ι : Type} (E : ι → Env) (O : ι → List AO) (φ : ι → Prop) (μ : ι → Nat) (x0 : ι) (h0 : φ x0) (f0 : Fit env os (E x0) (O x0))
    (round : ∀ x, φ x → AWp P c (fun env' os' => ∃ y, φ y ∧ μ y < μ x ∧ (Fit env' os' (E y) (O y) ∨ ∃ σ, FitS σ env' os' (E y) (O y))) X Rt (E x) (O x)) : AWp P (.loop c) N X Rt env os := by
  intro base w0 w gs tm hr hb
  obtain ⟨gs0, hr0⟩ := hr.fit f0
  refine wp_loop_ghost (fun n a w' => ∃ x gs', φ x ∧ μ x = n ∧ Rel base w' gs' (E x) (O x) a.tmps ∧ a.defers = [] ∧ Below base w0 w') (μ x0) ⟨x0, gs0, h0, rfl, hr0, rfl, hb⟩ ?_
  rintro n a w1 ⟨x, gs1, hφ, rfl, hr1, hd, hb1⟩
  have ea : a = ⟨a.tmps, []⟩ := by cases a; simp_all
  rw [ea]
  refine wp_mono (round x hφ base w0 w1 gs1 a.tmps hr1 hb1) ?_
  intro e a' w' hq
  cases e with
  | normal =>
    obtain ⟨env', os', gs', r1, r2, r3, y, hy, hlt, hf⟩ := hq
    rcases hf with hf | ⟨σ, hf⟩
    · obtain ⟨gs2, hr2⟩ := r1.fit hf
      exact ⟨μ y, hlt, y, gs2, hy, rfl, hr2, r2, r3⟩
    · obtain ⟨gs2, hr2⟩ := r1.fits hf
      exact ⟨μ y, hlt, y, gs2, hy, rfl, hr2, r2, r3⟩
  | exit j => exact hq
  | ret => exact hq
  | goto l => exact hq
  | panic ch => exact hq
  | outgrown => exact hq
end

end Go.Proofs.Ytlkhcelodcneiaa
/-
  The splice weight, walked: the reference. Condition: a tree.
-/
namespace Go.Proofs.Ytlkhcelodcneiaa
open Go Go.RowKit
attribute [local irreducible] AWp AOps ResIs Ret1 QOp LOp COp AFnV AFn Imms LeE LeO
set_option maxHeartbeats 1000000
set_option linter.unusedSimpArgs false
set_option linter.unusedVariables false

/-- The marks so far. -/
def kpT (bs : List Bool) (i : Nat) : List Bool := (List.range bs.length).map fun j => decide (j < i) && bs.getD j false
theorem kpT_len (bs : List Bool) (i : Nat) : (kpT bs i).length = bs.length := by simp [kpT]
theorem kpT_set {bs : List Bool} {i : Nat} : (kpT bs i).set i (bs.getD i false) = kpT bs (i + 1) := by
  apply List.ext_getElem (by simp [kpT])
  intro j h1 h2
  rw [List.getElem_set]
  simp only [kpT, List.getElem_map, List.getElem_range]
  by_cases c : i = j
  · subst c
    rw [if_pos rfl, decide_eq_true (show i < i + 1 by omega), Bool.true_and]
  · rw [if_neg c]
    congr 1
    exact decide_eq_decide.2 (by omega)
theorem kpT_all (bs : List Bool) : kpT bs bs.length = bs := by
  apply List.ext_getElem (by simp [kpT])
  intro j h1 h2
  simp [kpT, h2]
theorem kpT_0 (bs : List Bool) : kpT bs 0 = List.replicate bs.length false := by
  apply List.ext_getElem (by simp [kpT])
  intro j h1 h2
  simp [kpT]
set_option maxHeartbeats 16000000 in
theorem l13Weight_c (W : List Int) (E : List (List Int)) (bs : List Bool) (v w : Int) (o p : List Int) (hG : GrF W E) (hb : bs.length = W.length) (hv : 0 ≤ v ∧ v < W.length) (hT : Tr W.length (nearL E) v o p) (hall : ∀ x : Int, 0 ≤ x ∧ x < W.length → x ∈ o) (hw : w ∈ nearL E v)
    (hB : ∀ i : Nat, i < W.length → (bs.getD i false = true ↔ Dsc v o p w (i : Nat))) (h0 : 0 < (subW W (bF bs)).length) :
    AFnV Try.prog 14 [.agg [.ints W, .intss E], .i v, .i w] (.tuple #[.int .i64 (if (gdV (subW W (bF bs)) (subE E (bF bs))).2 = true then (gdV (subW W (bF bs)) (subE E (bF bs))).1 else 0), .bool (gdV (subW W (bF bs)) (subE E (bF bs))).2]) := by
  have hn := hG.n
  have hF := hG.fo.fst
  have hd := l13Det_c W E bs hG hb h0
  generalize (if (gdV (subW W (bF bs)) (subE E (bF bs))).2 = true then (gdV (subW W (bF bs)) (subE E (bF bs))).1 else 0) = dv at *
  generalize (gdV (subW W (bF bs)) (subE E (bF bs))).2 = db at *
  (refine AFnV.start Try.func14 Try.ntmps14 rfl (by kernel_rfl) fun hk => ?_; simp only [Env.start, enumF, List.length_cons, List.length_nil, Nat.reduceAdd, Nat.reduceSub, List.cons_append, List.nil_append])
  repeat' (first | (apply AOps.nil; try simp only [List.nil_append, List.cons_append, List.set_cons_zero, List.set_cons_succ, List.length_cons, List.length_nil, Nat.reduceAdd, AV.sh, AV.sh1, AV.sh0, AO.sh, List.map_cons, List.map_nil, Nat.zero_add, Nat.add_zero, setAll]) | (apply w_assign; exact rfl; exact rfl) | apply AWp.seq | apply AWp.region | apply AWp.block | (apply w_len; exact rfl; exact rfl; first | exact .ints _ | exact .intss _ | exact .sli rfl | exact .sls rfl | exact .slr rfl | exact .orow rfl | exact .nil) | (apply w_mkb; exact rfl; exact rfl; rotate_left 3; exact rfl; rotate_left 1) | omega | ((first | apply w_ld | apply w_fa); iterate 3 exact rfl) | ((apply w_boxa); iterate 2 exact rfl) | (apply w_ldb; iterate 5 exact rfl))
  refine AWp.cut (env' := ⟨52, [(1, .i v), (2, .i w), (3, .optr 0 0), (8, .own 1), (9, .i 0)]⟩) (os' := [.bx 29 [.ints W, .intss E], .slr 4 (bL (kpT bs 0))]) ?_ ?_
  · rw [kpT_0, hb]
    (apply Or.inl; refine ⟨lee rfl ?_, ?_, rfl, (by first | exact rfl | (simp [AO.lim, AV.lim, bL_lim]; done))⟩; (focus ((repeat (first | exact le_nil | refine le_eq rfl rfl ?_)); done)); (focus ((repeat (first | exact lo_nil | refine lo_eq rfl ?_)); done)))
  refine AWp.loopS (ι := Nat) (fun i => ⟨52, [(1, .i v), (2, .i w), (3, .optr 0 0), (8, .own 1), (9, .i i)]⟩) (fun i => [.bx 29 [.ints W, .intss E], .slr 4 (bL (kpT bs i))]) (fun i => i ≤ bs.length) (fun i => bs.length - i) 0 (Nat.zero_le _) ⟨lee rfl (by (repeat (first | exact le_nil | refine le_eq rfl rfl ?_))), by (repeat (first | exact lo_nil | refine lo_eq rfl ?_)), rfl, (by first | exact rfl | (simp [AO.lim, AV.lim, bL_lim]; done))⟩ ?_
  intro i i0
  by_cases hi : i < bs.length
  · have hio := hall (i : Nat) ⟨by omega, by omega⟩
    have hp := l11Path_c W E hG (i : Nat) v ⟨by omega, by omega⟩ hv
    obtain ⟨U, u1, u2, u3, u4⟩ := up_ex hT hio
    rw [pf_eq hF ⟨by omega, by omega⟩ hT u1 u2 u3] at hp
    have hst := kpT_set (bs := bs) (i := i)
    have hkl := kpT_len bs i
    have hBi := hB i (by omega)
    obtain ⟨g1, _, _⟩ := upw_at u1
    by_cases hiv : (i : Int) = v
    · have hf : bs.getD i false = false := by
        cases e : bs.getD i false with
        | false => rfl
        | true =>
          have hd1 := hBi.1 e
          rw [hiv] at hd1
          exact absurd hd1 (Dsc.notup hT hT.rt (List.mem_filter.2 ⟨hw, decide_eq_true (by rw [hT.pr]; have := (hF.bnd _ _ hw).1; omega)⟩))
      rw [hf] at hst
      repeat' (first | (apply AOps.nil; try simp only [List.nil_append, List.cons_append, List.set_cons_zero, List.set_cons_succ, List.length_cons, List.length_nil, Nat.reduceAdd, AV.sh, AV.sh1, AV.sh0, AO.sh, List.map_cons, List.map_nil, Nat.zero_add, Nat.add_zero, setAll]) | ((apply AOps.splitP; exact rfl; exact rfl) <;> intro h) | (apply w_move; exact rfl; exact rfl) | (apply w_assign; exact rfl; exact rfl) | apply AWp.seq | apply AWp.region | ((apply AWp.condP; exact rfl) <;> intro h) | apply AWp.block | apply AWp.exit | apply AWp.skip | (apply w_skip; exact rfl) | (apply w_pickF; exact rfl; exact rfl; exact rfl) | (apply w_len; exact rfl; exact rfl; first | exact .ints _ | exact .intss _ | exact .sli rfl | exact .sls rfl | exact .slr rfl | exact .orow rfl | exact .nil) | (apply w_idxb; iterate 4 exact rfl) | (apply w_stb; exact rfl; exact rfl; rotate_left 1; exact rfl; rotate_left 1) | (apply w_callm (hp); (focus ((repeat (first | exact im_nil | refine im_cons rfl (im_agg2 (.ints _) (.intss _)) ?_ | refine im_cons rfl (.val _) ?_)); done)); rintro r os0 ⟨rfl, rfl⟩; try simp only [List.nil_append, List.cons_append, List.set_cons_zero, List.set_cons_succ, List.length_cons, List.length_nil, Nat.reduceAdd, AV.sh, AV.sh1, AV.sh0, AO.sh, List.map_cons, List.map_nil, Nat.zero_add, Nat.add_zero, setAll]) | omega | ((first | apply w_lss | apply w_neq | apply w_add | apply w_ld | apply w_fa); iterate 3 exact rfl) | (apply w_ldb; iterate 5 exact rfl) | (apply w_ldst; iterate 5 exact rfl) | (apply inI_of <;> omega))
      refine ⟨i + 1, by omega, by omega, ?_⟩
      rw [show (i : Int).toNat = i from rfl, hst]
      (apply Or.inl; refine ⟨lee rfl ?_, ?_, rfl, (by first | exact rfl | (simp [AO.lim, AV.lim, bL_lim]; done))⟩; (focus ((repeat (first | exact le_nil | refine le_eq rfl rfl ?_)); done)); (focus ((repeat (first | exact lo_nil | refine lo_eq rfl ?_)); done)))
    · obtain ⟨c, c1, c2, c3, c4⟩ := up_last hT u1 u3 (i : Nat) u2 hiv
      have hbi := behind_iff hT hw hF u1 u3 u2 hiv
      have hval : decide (geti U (((U.length : Int) - 2).toNat : Nat) = w) = bs.getD i false := by
        have e : (geti U (((U.length : Int) - 2).toNat : Nat) = w) ↔ Dsc v o p w (i : Nat) := hbi
        rw [Bool.eq_iff_iff, decide_eq_true_iff, e]
        exact hBi.symm
      repeat' (first | (apply AOps.nil; try simp only [List.nil_append, List.cons_append, List.set_cons_zero, List.set_cons_succ, List.length_cons, List.length_nil, Nat.reduceAdd, AV.sh, AV.sh1, AV.sh0, AO.sh, List.map_cons, List.map_nil, Nat.zero_add, Nat.add_zero, setAll]) | ((apply AOps.splitP; exact rfl; exact rfl) <;> intro h) | (apply w_move; exact rfl; exact rfl) | (apply w_assign; exact rfl; exact rfl) | apply AWp.seq | apply AWp.region | ((apply AWp.condP; exact rfl) <;> intro h) | apply AWp.block | apply AWp.exit | apply AWp.skip | (apply w_skip; exact rfl) | (apply w_pickT; exact rfl; exact rfl; exact rfl) | (apply w_pickF; exact rfl; exact rfl; exact rfl) | (apply w_len; exact rfl; exact rfl; first | exact .ints _ | exact .intss _ | exact .sli rfl | exact .sls rfl | exact .slr rfl | exact .orow rfl | exact .nil) | (apply w_idxb; iterate 4 exact rfl) | (apply w_stb; exact rfl; exact rfl; rotate_left 1; exact rfl; rotate_left 1) | (apply w_callm (hp); (focus ((repeat (first | exact im_nil | refine im_cons rfl (im_agg2 (.ints _) (.intss _)) ?_ | refine im_cons rfl (.val _) ?_)); done)); rintro r os0 ⟨rfl, rfl⟩; try simp only [List.nil_append, List.cons_append, List.set_cons_zero, List.set_cons_succ, List.length_cons, List.length_nil, Nat.reduceAdd, AV.sh, AV.sh1, AV.sh0, AO.sh, List.map_cons, List.map_nil, Nat.zero_add, Nat.add_zero, setAll]) | omega | ((first | apply w_lss | apply w_eql | apply w_neq | apply w_add | apply w_sub | apply w_idx | apply w_ld | apply w_fa); iterate 3 exact rfl) | (apply w_idxo; exact rfl; exact rfl; (exact .sli rfl); exact rfl) | (apply w_ldo; iterate 4 exact rfl) | (apply w_ldb; iterate 5 exact rfl) | (apply w_ldst; iterate 5 exact rfl) | (apply inI_of <;> omega))
      refine ⟨i + 1, by omega, by omega, ?_⟩
      rw [hval, show (i : Int).toNat = i from rfl, hst]
      (apply Or.inl; refine ⟨lee rfl ?_, ?_, rfl, (by first | exact rfl | (simp [AO.lim, AV.lim, bL_lim]; done))⟩; (focus ((repeat (first | exact le_nil | refine le_eq rfl rfl ?_)); done)); (focus ((repeat (first | exact lo_nil | refine lo_eq rfl ?_)); done)))
  · obtain rfl : i = bs.length := by omega
    rw [kpT_all]
    repeat' (first | (apply AOps.nil; try simp only [List.nil_append, List.cons_append, List.set_cons_zero, List.set_cons_succ, List.length_cons, List.length_nil, Nat.reduceAdd, AV.sh, AV.sh1, AV.sh0, AO.sh, List.map_cons, List.map_nil, Nat.zero_add, Nat.add_zero, setAll]) | (apply w_move; exact rfl; exact rfl) | (apply w_assign; exact rfl; exact rfl) | apply AWp.seq | apply AWp.region | ((apply AWp.condP; exact rfl) <;> intro h) | apply AWp.block | apply AWp.ret | apply AWp.exit | apply AWp.skip | (apply w_len; exact rfl; exact rfl; first | exact .ints _ | exact .intss _ | exact .sli rfl | exact .sls rfl | exact .slr rfl | exact .orow rfl | exact .nil) | (apply w_call (hd); exact rfl; exact rfl; focus ((repeat (first | exact im_nil | refine im_cons rfl (im_agg2 (.ints _) (.intss _)) ?_ | refine im_cons rfl (.sem _ (reads_bl rfl)) ?_)); done)) | omega | ((first | apply w_lss | apply w_ld | apply w_fa | apply w_extv); iterate 3 exact rfl) | (apply w_ldb; iterate 5 exact rfl) | (apply w_ldst; iterate 5 exact rfl))
    all_goals exact .vv2 Try.results14 rfl rfl
end Go.Proofs.Ytlkhcelodcneiaa
/-
  Paths between two vertices, walked on both sides. No condition.
-/
namespace Go.Proofs.Ytlkhcelodcneiaa
open Go Go.RowKit
attribute [local irreducible] AWp AOps ResIs Ret1 QOp LOp COp AFnV AFn Imms LeE LeO
set_option maxHeartbeats 1000000
set_option linter.unusedSimpArgs false
set_option linter.unusedVariables false

theorem isVertex_c (W : List Int) (E : List (List Int)) (v : Int) (hW : W.length ≤ 1000) : AFnV Try.prog 30 [.agg [.ints W, .intss E], .i v] (.bool (decide (0 ≤ v ∧ v ≤ (W.length : Int) - 1))) := by
  (refine AFnV.start Try.func30 Try.ntmps30 rfl (by kernel_rfl) fun hk => ?_; simp only [Env.start, enumF, List.length_cons, List.length_nil, Nat.reduceAdd, Nat.reduceSub, List.cons_append, List.nil_append])
  have hin := inRange_c v 0 ((W.length : Int) - 1)
  repeat' (first | (apply AOps.nil; try simp only [List.nil_append, List.cons_append, List.set_cons_zero, List.set_cons_succ, List.length_cons, List.length_nil, Nat.reduceAdd, AV.sh, AV.sh1, AV.sh0, AO.sh, List.map_cons, List.map_nil, Nat.zero_add, Nat.add_zero, setAll]) | (apply w_move; exact rfl; exact rfl) | (apply w_assign; exact rfl; exact rfl) | apply AWp.seq | apply AWp.region | apply AWp.ret | (apply w_len; exact rfl; exact rfl; first | exact .ints _ | exact .intss _ | exact .sli rfl | exact .sls rfl | exact .slr rfl | exact .orow rfl | exact .nil) | (apply w_call (hin); exact rfl; exact rfl; focus ((repeat (first | exact im_nil | refine im_cons rfl (.val _) ?_)); done)) | ((first | apply w_sub | apply w_ld | apply w_fa); iterate 3 exact rfl) | ((apply w_boxa); iterate 2 exact rfl) | (apply w_ldb; iterate 5 exact rfl) | (apply inI_of <;> omega))
  all_goals exact .bool Try.results30 rfl rfl
theorem l11Vertex_c (W : List Int) (E : List (List Int)) (v : Int) (hW : W.length ≤ 1000) : AFnV Try.prog 24 [.agg [.ints W, .intss E], .i v] (.bool (decide (0 ≤ v ∧ v ≤ (W.length : Int) - 1))) := by
  (refine AFnV.start Try.func24 Try.ntmps24 rfl (by kernel_rfl) fun hk => ?_; simp only [Env.start, enumF, List.length_cons, List.length_nil, Nat.reduceAdd, Nat.reduceSub, List.cons_append, List.nil_append])
  have hin := l01In_c v 0 ((W.length : Int) - 1)
  repeat' (first | (apply AOps.nil; try simp only [List.nil_append, List.cons_append, List.set_cons_zero, List.set_cons_succ, List.length_cons, List.length_nil, Nat.reduceAdd, AV.sh, AV.sh1, AV.sh0, AO.sh, List.map_cons, List.map_nil, Nat.zero_add, Nat.add_zero, setAll]) | (apply w_move; exact rfl; exact rfl) | (apply w_assign; exact rfl; exact rfl) | apply AWp.seq | apply AWp.region | apply AWp.ret | (apply w_len; exact rfl; exact rfl; first | exact .ints _ | exact .intss _ | exact .sli rfl | exact .sls rfl | exact .slr rfl | exact .orow rfl | exact .nil) | (apply w_call (hin); exact rfl; exact rfl; focus ((repeat (first | exact im_nil | refine im_cons rfl (.val _) ?_)); done)) | ((first | apply w_sub | apply w_ld | apply w_fa); iterate 3 exact rfl) | ((apply w_boxa); iterate 2 exact rfl) | (apply w_ldb; iterate 5 exact rfl) | (apply inI_of <;> omega))
  all_goals exact .bool Try.results24 rfl rfl
end Go.Proofs.Ytlkhcelodcneiaa
/-
  Codes of the splice weight, and the splice weight, walked: the reference. No condition.
-/
namespace Go.Proofs.Ytlkhcelodcneiaa
open Go Go.RowKit
attribute [local irreducible] AWp AOps ResIs Ret1 QOp LOp COp AFnV AFn Imms LeE LeO
set_option maxHeartbeats 1000000
set_option linter.unusedSimpArgs false
set_option linter.unusedVariables false

open Classical in
/-- The code of a graph that is to be a tree with two vertices. -/
noncomputable def slC (W : List Int) (E : List (List Int)) (v w : Int) : Int := if gok W E = true then (if (0 ≤ v ∧ v < W.length) ∧ (0 ≤ w ∧ w < W.length) then (if E.length + 1 = W.length then 0 else 5) else 2) else 1
/-- The vertices behind w, seen from v. -/
noncomputable def kpb (W : List Int) (E : List (List Int)) (v w : Int) : List Bool := open Classical in (List.range W.length).map fun (i : Nat) => decide (Dsc v (trC W.length (nearL E) v).1 (trC W.length (nearL E) v).2 w (i : Nat))
theorem kpb_len (W : List Int) (E : List (List Int)) (v w : Int) : (kpb W E v w).length = W.length := by simp [kpb]
theorem kpb_get {W : List Int} {E : List (List Int)} {v w : Int} {i : Nat} (h : i < W.length) : (kpb W E v w).getD i false = true ↔ Dsc v (trC W.length (nearL E) v).1 (trC W.length (nearL E) v).2 w (i : Nat) := by
  simp [kpb, List.getD_eq_getElem?_getD, h]
theorem one_rt {W : List Int} {E : List (List Int)} (h : gok W E = true) : (rts W.length (nearL E) W.length).length = 1 ↔ E.length + 1 = W.length := by
  have hok := gok_iff.1 h
  have := rts_num hok.gr.fo.fst hok.row hok.eff
  omega
theorem kpb_sub {W : List Int} {E : List (List Int)} {v w : Int} (hG : GrF W E) (hv : 0 ≤ v ∧ v < W.length) (hw : w ∈ nearL E v) (hall : ∀ x : Int, 0 ≤ x ∧ x < W.length → x ∈ (trC W.length (nearL E) v).1) : 0 < (subW W (bF (kpb W E v w))).length := by
  have hwr := (hG.fo.fst.bnd _ _ hw).1
  have hb : bF (kpb W E v w) w.toNat = true := by
    refine (kpb_get (by omega)).2 ?_
    rw [show ((w.toNat : Nat) : Int) = w by omega]
    exact .refl (hall w hwr)
  rw [subW_len]
  have := rk_lt hb (show w.toNat < W.length by omega)
  omega
set_option maxHeartbeats 8000000 in
theorem l13Code_c (W : List Int) (E : List (List Int)) (v w : Int) : AFnV Try.prog 11 [.agg [.ints W, .intss E], .ints [v, w]] (.int .i64 (slC W E v w)) := by
  have hg := l11Is_c W E
  cases hv : gok W E with
  | false =>
    rw [hv] at hg
    have e : slC W E v w = 1 := by unfold slC; rw [if_neg (by rw [hv]; simp)]
    rw [e]
    (refine AFnV.start Try.func11 Try.ntmps11 rfl (by kernel_rfl) fun hk => ?_; simp only [Env.start, enumF, List.length_cons, List.length_nil, Nat.reduceAdd, Nat.reduceSub, List.cons_append, List.nil_append])
    repeat' (first | (apply AOps.nil; try simp only [List.nil_append, List.cons_append, List.set_cons_zero, List.set_cons_succ, List.length_cons, List.length_nil, Nat.reduceAdd, AV.sh, AV.sh1, AV.sh0, AO.sh, List.map_cons, List.map_nil, Nat.zero_add, Nat.add_zero, setAll]) | (apply w_assign; exact rfl; exact rfl) | apply AWp.seq | apply AWp.region | (apply AWp.condT; exact rfl) | apply AWp.ret | (apply w_call (hg); exact rfl; exact rfl; focus ((repeat (first | exact im_nil | refine im_cons rfl (im_agg2 (.ints _) (.intss _)) ?_)); done)) | ((first | apply w_not | apply w_boxa); iterate 2 exact rfl) | (apply w_ldst; iterate 5 exact rfl))
    all_goals exact .int Try.results11 rfl rfl
  | true =>
    rw [hv] at hg
    have hok := gok_iff.1 hv
    have hn := hok.n
    have hG := hok.gr
    have v1 := l11Vertex_c W E v (by omega)
    have v2 := l11Vertex_c W E w (by omega)
    by_cases cv : 0 ≤ v ∧ v ≤ (W.length : Int) - 1
    · rw [decide_eq_true cv] at v1
      by_cases cw : 0 ≤ w ∧ w ≤ (W.length : Int) - 1
      · rw [decide_eq_true cw] at v2
        have hlb := l11Labels_c W E hG
        have hone := one_rt hv
        have hl1 := lab_one hG.fo.fst (show 0 < W.length by omega)
        obtain ⟨m, hL⟩ := labS_ok hG.fo.fst (show 0 < W.length by omega) W.length (Nat.le_refl _)
        have hll := hL.len
        have hh := l01Hs_c (labS W.length (nearL E) W.length) 1 (by omega)
        have e : slC W E v w = if E.length + 1 = W.length then 0 else 5 := by unfold slC; rw [if_pos hv, if_pos (by omega)]
        have hd : decide (1 ∈ labS W.length (nearL E) W.length) = !decide (E.length + 1 = W.length) := by
          rw [Bool.eq_iff_iff, decide_eq_true_iff, Bool.not_eq_true', decide_eq_false_iff_not, hl1]
          exact not_congr hone
        rw [hd] at hh
        rw [e]
        (refine AFnV.start Try.func11 Try.ntmps11 rfl (by kernel_rfl) fun hk => ?_; simp only [Env.start, enumF, List.length_cons, List.length_nil, Nat.reduceAdd, Nat.reduceSub, List.cons_append, List.nil_append])
        repeat' (first | (apply AOps.nil; try simp only [List.nil_append, List.cons_append, List.set_cons_zero, List.set_cons_succ, List.length_cons, List.length_nil, Nat.reduceAdd, AV.sh, AV.sh1, AV.sh0, AO.sh, List.map_cons, List.map_nil, Nat.zero_add, Nat.add_zero, setAll]) | (apply w_assign; exact rfl; exact rfl) | apply AWp.seq | apply AWp.region | (apply AWp.condF; exact rfl) | apply AWp.block | apply AWp.skip | (apply w_call (hg); exact rfl; exact rfl; focus ((repeat (first | exact im_nil | refine im_cons rfl (im_agg2 (.ints _) (.intss _)) ?_)); done)) | ((first | apply w_not | apply w_boxa); iterate 2 exact rfl) | (apply w_ldst; iterate 5 exact rfl))
        refine AWp.loop (ι := Nat) (fun i => ⟨25, [(1, .ints [v, w]), (2, .optr 0 0), (5, .i i)]⟩) (fun _ => [.bx 29 [.ints W, .intss E]]) (fun i => i ≤ 2) (fun i => 2 - i) 0 (Nat.zero_le _) ⟨lee rfl (by (repeat (first | exact le_nil | refine le_eq rfl rfl ?_))), by (repeat (first | exact lo_nil | refine lo_eq rfl ?_)), rfl, rfl⟩ ?_
        intro i i0
        rcases (show i = 0 ∨ i = 1 ∨ i = 2 by omega) with rfl | rfl | rfl
        · repeat' (first | (apply AOps.nil; try simp only [List.nil_append, List.cons_append, List.set_cons_zero, List.set_cons_succ, List.length_cons, List.length_nil, Nat.reduceAdd, AV.sh, AV.sh1, AV.sh0, AO.sh, List.map_cons, List.map_nil, Nat.zero_add, Nat.add_zero, setAll]) | (apply w_move; exact rfl; exact rfl) | apply AWp.seq | apply AWp.region | ((apply AWp.condP; exact rfl) <;> intro h) | apply AWp.block | apply AWp.exit | apply AWp.skip | (apply w_len; exact rfl; exact rfl; first | exact .ints _ | exact .intss _ | exact .sli rfl | exact .sls rfl | exact .slr rfl | exact .orow rfl | exact .nil) | omega | ((apply w_lss); iterate 3 exact rfl))
          refine AWp.regionQ (by kernel_rfl) (by kernel_rfl) ?_
          repeat' (first | (apply AOps.nil; try simp only [List.nil_append, List.cons_append, List.set_cons_zero, List.set_cons_succ, List.length_cons, List.length_nil, Nat.reduceAdd, AV.sh, AV.sh1, AV.sh0, AO.sh, List.map_cons, List.map_nil, Nat.zero_add, Nat.add_zero, setAll]) | (apply w_move; exact rfl; exact rfl) | (apply w_assign; exact rfl; exact rfl) | apply AWp.region | (apply AWp.condF; exact rfl) | apply AWp.skip | (apply w_call (v1); exact rfl; exact rfl; focus ((repeat (first | exact im_nil | refine im_cons rfl (im_agg2 (.ints _) (.intss _)) ?_ | refine im_cons rfl (.val _) ?_)); done)) | omega | ((first | apply w_add | apply w_idx | apply w_ld); iterate 3 exact rfl) | ((apply w_not); iterate 2 exact rfl) | (apply w_ldst; iterate 5 exact rfl) | (apply inI_of <;> omega))
          exact ⟨1, by omega, by omega, ⟨lee rfl (by (repeat (first | exact le_nil | refine le_eq rfl rfl ?_))), by (repeat (first | exact lo_nil | refine lo_eq rfl ?_)), rfl, rfl⟩⟩
        · repeat' (first | (apply AOps.nil; try simp only [List.nil_append, List.cons_append, List.set_cons_zero, List.set_cons_succ, List.length_cons, List.length_nil, Nat.reduceAdd, AV.sh, AV.sh1, AV.sh0, AO.sh, List.map_cons, List.map_nil, Nat.zero_add, Nat.add_zero, setAll]) | (apply w_move; exact rfl; exact rfl) | apply AWp.seq | apply AWp.region | ((apply AWp.condP; exact rfl) <;> intro h) | apply AWp.block | apply AWp.exit | apply AWp.skip | (apply w_len; exact rfl; exact rfl; first | exact .ints _ | exact .intss _ | exact .sli rfl | exact .sls rfl | exact .slr rfl | exact .orow rfl | exact .nil) | omega | ((apply w_lss); iterate 3 exact rfl))
          refine AWp.regionQ (by kernel_rfl) (by kernel_rfl) ?_
          repeat' (first | (apply AOps.nil; try simp only [List.nil_append, List.cons_append, List.set_cons_zero, List.set_cons_succ, List.length_cons, List.length_nil, Nat.reduceAdd, AV.sh, AV.sh1, AV.sh0, AO.sh, List.map_cons, List.map_nil, Nat.zero_add, Nat.add_zero, setAll]) | (apply w_move; exact rfl; exact rfl) | (apply w_assign; exact rfl; exact rfl) | apply AWp.region | (apply AWp.condF; exact rfl) | apply AWp.skip | (apply w_call (v2); exact rfl; exact rfl; focus ((repeat (first | exact im_nil | refine im_cons rfl (im_agg2 (.ints _) (.intss _)) ?_ | refine im_cons rfl (.val _) ?_)); done)) | omega | ((first | apply w_add | apply w_idx | apply w_ld); iterate 3 exact rfl) | ((apply w_not); iterate 2 exact rfl) | (apply w_ldst; iterate 5 exact rfl) | (apply inI_of <;> omega))
          exact ⟨2, by omega, by omega, ⟨lee rfl (by (repeat (first | exact le_nil | refine le_eq rfl rfl ?_))), by (repeat (first | exact lo_nil | refine lo_eq rfl ?_)), rfl, rfl⟩⟩
        · by_cases c : E.length + 1 = W.length
          · rw [decide_eq_true c] at hh
            rw [if_pos c]
            repeat' (first | (apply AOps.nil; try simp only [List.nil_append, List.cons_append, List.set_cons_zero, List.set_cons_succ, List.length_cons, List.length_nil, Nat.reduceAdd, AV.sh, AV.sh1, AV.sh0, AO.sh, List.map_cons, List.map_nil, Nat.zero_add, Nat.add_zero, setAll]) | (apply w_move; exact rfl; exact rfl) | (apply w_assign; exact rfl; exact rfl) | apply AWp.seq | apply AWp.region | ((apply AWp.condP; exact rfl) <;> intro h) | (apply AWp.condF; exact rfl) | apply AWp.block | apply AWp.ret | apply AWp.exit | apply AWp.skip | (apply w_len; exact rfl; exact rfl; first | exact .ints _ | exact .intss _ | exact .sli rfl | exact .sls rfl | exact .slr rfl | exact .orow rfl | exact .nil) | (apply w_callm (hlb); (focus ((repeat (first | exact im_nil | refine im_cons rfl (im_agg2 (.ints _) (.intss _)) ?_)); done)); rintro r os0 ⟨rfl, rfl⟩; try simp only [List.nil_append, List.cons_append, List.set_cons_zero, List.set_cons_succ, List.length_cons, List.length_nil, Nat.reduceAdd, AV.sh, AV.sh1, AV.sh0, AO.sh, List.map_cons, List.map_nil, Nat.zero_add, Nat.add_zero, setAll]) | (apply w_call (hh); exact rfl; exact rfl; focus ((repeat (first | exact im_nil | refine im_cons rfl (.val _) ?_ | refine im_cons rfl (.sli rfl) ?_)); done)) | omega | ((apply w_lss); iterate 3 exact rfl) | (apply w_ldst; iterate 5 exact rfl))
            all_goals exact .int Try.results11 rfl rfl
          · rw [decide_eq_false c] at hh
            rw [if_neg c]
            repeat' (first | (apply AOps.nil; try simp only [List.nil_append, List.cons_append, List.set_cons_zero, List.set_cons_succ, List.length_cons, List.length_nil, Nat.reduceAdd, AV.sh, AV.sh1, AV.sh0, AO.sh, List.map_cons, List.map_nil, Nat.zero_add, Nat.add_zero, setAll]) | (apply w_move; exact rfl; exact rfl) | (apply w_assign; exact rfl; exact rfl) | apply AWp.seq | apply AWp.region | ((apply AWp.condP; exact rfl) <;> intro h) | (apply AWp.condT; exact rfl) | apply AWp.block | apply AWp.ret | apply AWp.exit | apply AWp.skip | (apply w_len; exact rfl; exact rfl; first | exact .ints _ | exact .intss _ | exact .sli rfl | exact .sls rfl | exact .slr rfl | exact .orow rfl | exact .nil) | (apply w_callm (hlb); (focus ((repeat (first | exact im_nil | refine im_cons rfl (im_agg2 (.ints _) (.intss _)) ?_)); done)); rintro r os0 ⟨rfl, rfl⟩; try simp only [List.nil_append, List.cons_append, List.set_cons_zero, List.set_cons_succ, List.length_cons, List.length_nil, Nat.reduceAdd, AV.sh, AV.sh1, AV.sh0, AO.sh, List.map_cons, List.map_nil, Nat.zero_add, Nat.add_zero, setAll]) | (apply w_call (hh); exact rfl; exact rfl; focus ((repeat (first | exact im_nil | refine im_cons rfl (.val _) ?_ | refine im_cons rfl (.sli rfl) ?_)); done)) | omega | ((apply w_lss); iterate 3 exact rfl) | (apply w_ldst; iterate 5 exact rfl))
            all_goals exact .int Try.results11 rfl rfl
      · rw [decide_eq_false cw] at v2
        have e : slC W E v w = 2 := by unfold slC; rw [if_pos hv, if_neg (by omega)]
        rw [e]
        (refine AFnV.start Try.func11 Try.ntmps11 rfl (by kernel_rfl) fun hk => ?_; simp only [Env.start, enumF, List.length_cons, List.length_nil, Nat.reduceAdd, Nat.reduceSub, List.cons_append, List.nil_append])
        repeat' (first | (apply AOps.nil; try simp only [List.nil_append, List.cons_append, List.set_cons_zero, List.set_cons_succ, List.length_cons, List.length_nil, Nat.reduceAdd, AV.sh, AV.sh1, AV.sh0, AO.sh, List.map_cons, List.map_nil, Nat.zero_add, Nat.add_zero, setAll]) | (apply w_assign; exact rfl; exact rfl) | apply AWp.seq | apply AWp.region | (apply AWp.condF; exact rfl) | apply AWp.block | apply AWp.skip | (apply w_call (hg); exact rfl; exact rfl; focus ((repeat (first | exact im_nil | refine im_cons rfl (im_agg2 (.ints _) (.intss _)) ?_)); done)) | ((first | apply w_not | apply w_boxa); iterate 2 exact rfl) | (apply w_ldst; iterate 5 exact rfl))
        refine AWp.loop (ι := Nat) (fun i => ⟨25, [(1, .ints [v, w]), (2, .optr 0 0), (5, .i i)]⟩) (fun _ => [.bx 29 [.ints W, .intss E]]) (fun i => i ≤ 1) (fun i => 1 - i) 0 (Nat.zero_le _) ⟨lee rfl (by (repeat (first | exact le_nil | refine le_eq rfl rfl ?_))), by (repeat (first | exact lo_nil | refine lo_eq rfl ?_)), rfl, rfl⟩ ?_
        intro i i0
        rcases (show i = 0 ∨ i = 1 by omega) with rfl | rfl
        · repeat' (first | (apply AOps.nil; try simp only [List.nil_append, List.cons_append, List.set_cons_zero, List.set_cons_succ, List.length_cons, List.length_nil, Nat.reduceAdd, AV.sh, AV.sh1, AV.sh0, AO.sh, List.map_cons, List.map_nil, Nat.zero_add, Nat.add_zero, setAll]) | (apply w_move; exact rfl; exact rfl) | apply AWp.seq | apply AWp.region | ((apply AWp.condP; exact rfl) <;> intro h) | apply AWp.block | apply AWp.exit | apply AWp.skip | (apply w_len; exact rfl; exact rfl; first | exact .ints _ | exact .intss _ | exact .sli rfl | exact .sls rfl | exact .slr rfl | exact .orow rfl | exact .nil) | omega | ((apply w_lss); iterate 3 exact rfl))
          refine AWp.regionQ (by kernel_rfl) (by kernel_rfl) ?_
          repeat' (first | (apply AOps.nil; try simp only [List.nil_append, List.cons_append, List.set_cons_zero, List.set_cons_succ, List.length_cons, List.length_nil, Nat.reduceAdd, AV.sh, AV.sh1, AV.sh0, AO.sh, List.map_cons, List.map_nil, Nat.zero_add, Nat.add_zero, setAll]) | (apply w_move; exact rfl; exact rfl) | (apply w_assign; exact rfl; exact rfl) | apply AWp.region | (apply AWp.condF; exact rfl) | apply AWp.skip | (apply w_call (v1); exact rfl; exact rfl; focus ((repeat (first | exact im_nil | refine im_cons rfl (im_agg2 (.ints _) (.intss _)) ?_ | refine im_cons rfl (.val _) ?_)); done)) | omega | ((first | apply w_add | apply w_idx | apply w_ld); iterate 3 exact rfl) | ((apply w_not); iterate 2 exact rfl) | (apply w_ldst; iterate 5 exact rfl) | (apply inI_of <;> omega))
          exact ⟨1, by omega, by omega, ⟨lee rfl (by (repeat (first | exact le_nil | refine le_eq rfl rfl ?_))), by (repeat (first | exact lo_nil | refine lo_eq rfl ?_)), rfl, rfl⟩⟩
        · repeat' (first | (apply AOps.nil; try simp only [List.nil_append, List.cons_append, List.set_cons_zero, List.set_cons_succ, List.length_cons, List.length_nil, Nat.reduceAdd, AV.sh, AV.sh1, AV.sh0, AO.sh, List.map_cons, List.map_nil, Nat.zero_add, Nat.add_zero, setAll]) | (apply w_move; exact rfl; exact rfl) | apply AWp.seq | apply AWp.region | ((apply AWp.condP; exact rfl) <;> intro h) | apply AWp.block | apply AWp.exit | apply AWp.skip | (apply w_len; exact rfl; exact rfl; first | exact .ints _ | exact .intss _ | exact .sli rfl | exact .sls rfl | exact .slr rfl | exact .orow rfl | exact .nil) | omega | ((apply w_lss); iterate 3 exact rfl))
          refine AWp.regionQ (by kernel_rfl) (by kernel_rfl) ?_
          repeat' (first | (apply AOps.nil; try simp only [List.nil_append, List.cons_append, List.set_cons_zero, List.set_cons_succ, List.length_cons, List.length_nil, Nat.reduceAdd, AV.sh, AV.sh1, AV.sh0, AO.sh, List.map_cons, List.map_nil, Nat.zero_add, Nat.add_zero, setAll]) | (apply w_move; exact rfl; exact rfl) | (apply w_assign; exact rfl; exact rfl) | apply AWp.seq | apply AWp.region | (apply AWp.condT; exact rfl) | apply AWp.ret | (apply w_call (v2); exact rfl; exact rfl; focus ((repeat (first | exact im_nil | refine im_cons rfl (im_agg2 (.ints _) (.intss _)) ?_ | refine im_cons rfl (.val _) ?_)); done)) | omega | ((first | apply w_idx | apply w_ld); iterate 3 exact rfl) | ((apply w_not); iterate 2 exact rfl) | (apply w_ldst; iterate 5 exact rfl))
          all_goals exact .int Try.results11 rfl rfl
    · rw [decide_eq_false cv] at v1
      have e : slC W E v w = 2 := by unfold slC; rw [if_pos hv, if_neg (by omega)]
      rw [e]
      (refine AFnV.start Try.func11 Try.ntmps11 rfl (by kernel_rfl) fun hk => ?_; simp only [Env.start, enumF, List.length_cons, List.length_nil, Nat.reduceAdd, Nat.reduceSub, List.cons_append, List.nil_append])
      repeat' (first | (apply AOps.nil; try simp only [List.nil_append, List.cons_append, List.set_cons_zero, List.set_cons_succ, List.length_cons, List.length_nil, Nat.reduceAdd, AV.sh, AV.sh1, AV.sh0, AO.sh, List.map_cons, List.map_nil, Nat.zero_add, Nat.add_zero, setAll]) | (apply w_assign; exact rfl; exact rfl) | apply AWp.seq | apply AWp.region | (apply AWp.condF; exact rfl) | apply AWp.block | apply AWp.skip | (apply w_call (hg); exact rfl; exact rfl; focus ((repeat (first | exact im_nil | refine im_cons rfl (im_agg2 (.ints _) (.intss _)) ?_)); done)) | ((first | apply w_not | apply w_boxa); iterate 2 exact rfl) | (apply w_ldst; iterate 5 exact rfl))
      refine AWp.loop (ι := Nat) (fun i => ⟨25, [(1, .ints [v, w]), (2, .optr 0 0), (5, .i i)]⟩) (fun _ => [.bx 29 [.ints W, .intss E]]) (fun i => i ≤ 0) (fun i => 0 - i) 0 (Nat.zero_le _) ⟨lee rfl (by (repeat (first | exact le_nil | refine le_eq rfl rfl ?_))), by (repeat (first | exact lo_nil | refine lo_eq rfl ?_)), rfl, rfl⟩ ?_
      intro i i0
      obtain rfl : i = 0 := by omega
      repeat' (first | (apply AOps.nil; try simp only [List.nil_append, List.cons_append, List.set_cons_zero, List.set_cons_succ, List.length_cons, List.length_nil, Nat.reduceAdd, AV.sh, AV.sh1, AV.sh0, AO.sh, List.map_cons, List.map_nil, Nat.zero_add, Nat.add_zero, setAll]) | (apply w_move; exact rfl; exact rfl) | apply AWp.seq | apply AWp.region | ((apply AWp.condP; exact rfl) <;> intro h) | apply AWp.block | apply AWp.exit | apply AWp.skip | (apply w_len; exact rfl; exact rfl; first | exact .ints _ | exact .intss _ | exact .sli rfl | exact .sls rfl | exact .slr rfl | exact .orow rfl | exact .nil) | omega | ((apply w_lss); iterate 3 exact rfl))
      refine AWp.regionQ (by kernel_rfl) (by kernel_rfl) ?_
      repeat' (first | (apply AOps.nil; try simp only [List.nil_append, List.cons_append, List.set_cons_zero, List.set_cons_succ, List.length_cons, List.length_nil, Nat.reduceAdd, AV.sh, AV.sh1, AV.sh0, AO.sh, List.map_cons, List.map_nil, Nat.zero_add, Nat.add_zero, setAll]) | (apply w_move; exact rfl; exact rfl) | (apply w_assign; exact rfl; exact rfl) | apply AWp.seq | apply AWp.region | (apply AWp.condT; exact rfl) | apply AWp.ret | (apply w_call (v1); exact rfl; exact rfl; focus ((repeat (first | exact im_nil | refine im_cons rfl (im_agg2 (.ints _) (.intss _)) ?_ | refine im_cons rfl (.val _) ?_)); done)) | omega | ((first | apply w_idx | apply w_ld); iterate 3 exact rfl) | ((apply w_not); iterate 2 exact rfl) | (apply w_ldst; iterate 5 exact rfl))
      all_goals exact .int Try.results11 rfl rfl
end Go.Proofs.Ytlkhcelodcneiaa
/-
  A source of numbers: a struct of bytes, a place and a hash behind a pointer; functions that write to it in its place, whatever it then holds. No condition.
-/
namespace Go.Proofs.Ytlkhcelodcneiaa
open Go Go.RowKit
set_option linter.unusedSimpArgs false

def SOk (bs : List Int) (at_ h : Int) : Prop := (0 ≤ at_ ∧ at_ ≤ bs.length) ∧ (0 ≤ h ∧ h < 18446744073709551616)
/-- The struct in memory. -/
structure Sk (T : TypeId) (base : Nat) (w : World) (g0 : Gh) (vC : Value) (at_ h : Int) : Prop where
  cell : w.heap[g0.b]? = some (.cells #[vC, .int .i64 at_, .int .u64 h] T (0, 0))
  one : vC.oneCell' = true
  hb : base ≤ g0.b
  bl : g0.bl = [g0.b]
  v : g0.v = .pointer (some ⟨g0.b, 0, none⟩)
def AFnS (P : Program) (f : FuncId) (T : TypeId) (bs : List Int) (as0 : List Value) (Q : Value → Prop) : Prop :=
  HasBody P f ∧ ∀ base w g0 vC at_ h, base ≤ w.heap.size → Sk T base w g0 vC at_ h → SOk bs at_ h → BysAt w (fun b => b ∉ g0.bl) vC bs →
    Calls P f (g0.v :: as0).toArray w fun ev w' => ∃ rv at' h', ev = .returned rv ∧ Q rv ∧ SOk bs at' h' ∧ Sk T base w' g0 vC at' h' ∧ Below base w w' ∧ ∀ b, b < w.heap.size → b ∉ g0.bl → w'.heap[b]? = w.heap[b]?
abbrev skL (T : TypeId) (bs : List Int) (vC : Value) (at_ h : Int) : AO := .bx T [.ro (roB vC bs), .val (.int .i64 at_), .val (.int .u64 h)]
def SkEnd (P : Program) (fn : Func) (T : TypeId) (bs : List Int) (vC : Value) (K : Kp) (Q : Value → Prop) (env : Env) (os : List AO) : Prop :=
  ∃ rv at' h', ResIs P fn env os (.val rv) ∧ Q rv ∧ SOk bs at' h' ∧ ∃ tl, os = .keep 2 K :: skL T bs vC at' h' :: tl

set_option maxHeartbeats 2000000 in
theorem AFnS.of {P : Program} {f : FuncId} {fn : Func} {c : Code} {T : TypeId} {bs : List Int} {as0 : List Value} {args' : List AV} {Q : Value → Prop} {n : Nat} (hf : P.funcs[f]? = some fn) (hb : fn.body = some c) (hnm : (fn.name == "runtime.NumGoroutine") = false)
    (hn : fn.ntmps - (as0.length + 1) = n) (ha : args' = .optr 1 0 :: as0.map AV.val)
    (h : ∀ K vC at_ h, SOk bs at_ h → AWp P c (SkEnd P fn T bs vC K Q) (fun _ _ _ => False) (SkEnd P fn T bs vC K Q) (Env.start args' n) [.keep 2 K, skL T bs vC at_ h]) :
    AFnS P f T bs as0 Q := by
  refine ⟨⟨fn, c, hf, hnm, hb⟩, fun base w g0 vC at_ hh hbase hC hI hW => calls_of_wp hf hb ?_⟩
  have hvs : ((g0.v :: as0).toArray).size = as0.length + 1 := by simp
  rw [show fn.ntmps - ((g0.v :: as0).toArray).size = n by rw [hvs]; exact hn]
  obtain ⟨c1, c1', c2, c3, c4⟩ := hC
  let bl : List Nat := (List.range w.heap.size).filter fun b => decide (base ≤ b) && !(g0.bl).contains b
  let gk : Gh := ⟨undef, 0, bl, []⟩
  let K : Kp := ⟨fun b => w.heap[b]?, [gk, g0]⟩
  have hlt : g0.b < w.heap.size := (Array.getElem?_eq_some_iff.1 c1).1
  have hbl : ∀ b, b ∈ bl ↔ b < w.heap.size ∧ base ≤ b ∧ b ∉ g0.bl := by
    intro b
    simp only [bl, List.mem_filter, List.mem_range, Bool.and_eq_true, decide_eq_true_eq, Bool.not_eq_true', List.contains_eq_mem, decide_eq_false_iff_not]
  have okk : ∀ b, b ∉ g0.bl → okOf [gk, g0] [.keep 2 K, skL T bs vC at_ hh] b := by
    intro b hb i x y hx hy hl
    match i with
    | 0 => cases hy; exact hl.elim
    | 1 => cases hx; exact hb
    | i + 2 => simp at hx
  have kp : Keeps (fun b => b ∉ g0.bl) (okOf [gk, g0] [.keep 2 K, skL T bs vC at_ hh]) w w := fun b hb _ => ⟨okk b hb, rfl⟩
  have hrel : Rel base w [gk, g0] (Env.start args' n) [.keep 2 K, skL T bs vC at_ hh] ((g0.v :: as0).toArray ++ Array.replicate n undef) := by
    refine ⟨hbase, rfl, by simp [Env.start, ha], fun i => ?_, ?_, ?_, ?_⟩
    · refine start_rv args' n (g0.v :: as0).toArray (fun i => ?_) i
      rw [ha]
      match i with
      | 0 =>
        show RV w _ _ g0.v (.optr 1 0)
        rw [c4]
        exact .optr (g := g0) rfl
      | i + 1 =>
        have e1 : ((g0.v :: as0).toArray).getD (i + 1) undef = as0.getD i undef := by simp [Array.getD_eq_getD_getElem?, List.getD_eq_getElem?_getD]
        have e2 : (AV.optr 1 0 :: as0.map AV.val).getD (i + 1) .any = (as0.map AV.val).getD i .any := rfl
        rw [e1, e2]
        rw [List.getD_eq_getElem?_getD, List.getD_eq_getElem?_getD, List.getElem?_map]
        cases as0[i]? with
        | none => exact .any _
        | some z => exact .val z
    · intro i x y hx hy
      match i with
      | 0 =>
        cases hx; cases hy
        exact ⟨fun b _ => rfl, rfl, fun i x h => h⟩
      | 1 =>
        cases hx; cases hy
        refine ⟨[vC, .int .i64 at_, .int .u64 hh], c1, c2, c3, c4, rfl, ?_, fun j => ?_⟩
        · intro z hz
          simp only [List.mem_cons, List.not_mem_nil, or_false] at hz
          rcases hz with rfl | rfl | rfl
          · exact c1'
          · rfl
          · rfl
        · match j with
          | 0 => exact .ro ⟨rfl, hW.mono kp⟩
          | 1 => exact .val _
          | 2 => exact .val _
          | j + 3 => exact .any _
      | i + 2 => simp at hx
    · intro i j a b o1 o2 hij ha1 hb1 ho1 ho2 _ _ c hc1 hc2
      match i, j with
      | 0, 0 => omega
      | 0, 1 =>
        cases ha1; cases hb1
        exact ((hbl c).1 hc1).2.2 hc2
      | 1, 0 =>
        cases ha1; cases hb1
        exact ((hbl c).1 hc2).2.2 hc1
      | 1, 1 => omega
      | i + 2, _ => simp at ha1
      | 0, j + 2 => simp at hb1
      | 1, j + 2 => simp at hb1
    · intro i x y hx hy _ b hb
      match i with
      | 0 => cases hx; exact ⟨((hbl b).1 hb).2.1, ((hbl b).1 hb).1⟩
      | 1 =>
        cases hx
        rw [c3] at hb
        simp only [List.mem_cons, List.not_mem_nil, or_false] at hb
        subst hb; exact ⟨c2, hlt⟩
      | i + 2 => simp at hx
  have fin : ∀ {env : Env} {os1 : List AO} {gs2 : List Gh} {a : Act} {w' : World}, Rel base w' gs2 env os1 a.tmps → Below base w w' → SkEnd P fn T bs vC K Q env os1 →
      ∃ u, (results fn a.tmps).run P w' = .ok u w' ∧ (∃ rv at' h', Ending.returned u = .returned rv ∧ Q rv ∧ SOk bs at' h' ∧ Sk T base w' g0 vC at' h' ∧ Below base w w' ∧ ∀ b, b < w.heap.size → b ∉ g0.bl → w'.heap[b]? = w.heap[b]?) := by
    rintro env os1 gs2 a w' hr hbel ⟨rv, at', h', hres, hQ, hI', tl, rfl⟩
    obtain ⟨u, hu, hv⟩ := hres _ _ _ _ hr
    cases hv
    have hgl := hr.hl
    obtain ⟨x0, hx0⟩ : ∃ x, gs2[0]? = some x := ⟨_, List.getElem?_eq_getElem (by rw [hgl]; simp)⟩
    obtain ⟨r1, r2, r3⟩ := hr.ho 0 _ _ hx0 rfl
    have p0 := r3 0 gk rfl
    have p1 := r3 1 g0 rfl
    have e0 : x0 = gk := by rw [hx0] at p0; exact Option.some.inj p0
    subst e0
    have o1 := hr.ho 1 _ _ p1 rfl
    obtain ⟨cs, d1, d2, d3, d4, d5, d6, d7⟩ := o1
    match cs, d5 with
    | [z0, z1, z2], _ =>
      have q0 := d7 0
      have q1 := d7 1
      have q2 := d7 2
      have w0 : z0 = vC := by cases q0 with | ro h => exact h.1
      have w1 : z1 = .int .i64 at' := by cases q1; rfl
      have w2 : z2 = .int .u64 h' := by cases q2; rfl
      subst w0 w1 w2
      refine ⟨_, hu, _, at', h', rfl, hQ, hI', ⟨d1, c1', c2, c3, c4⟩, hbel, fun b hb hok => ?_⟩
      rcases Nat.lt_or_ge b base with h6 | h6
      · exact hbel.block b h6
      · exact r1 b ((hbl b).2 ⟨hb, h6, hok⟩)
  refine wp_mono (h K vC at_ hh hI base w w _ _ hrel (Below.refl _ _)) ?_
  intro ev a w' hq
  cases ev with
  | normal =>
    obtain ⟨env, os1, gs1, hr, hd, hbel, hx⟩ := hq
    obtain ⟨u, hu, hw⟩ := fin hr hbel hx
    exact ⟨hd, u, hu, hw⟩
  | exit j => obtain ⟨_, _, _, _, _, _, hx⟩ := hq; exact hx.elim
  | ret =>
    obtain ⟨env, os1, gs1, hr, hd, hbel, hx⟩ := hq
    obtain ⟨u, hu, hw⟩ := fin hr hbel hx
    exact ⟨hd, u, hu, hw⟩
  | goto l => exact (hq : False).elim
  | panic ch => exact (hq : False).elim
  | outgrown => exact (hq : False).elim
theorem AFnS.start {P : Program} {f : FuncId} {fn : Func} {nt : Nat} {T : TypeId} {bs : List Int} {as0 : List Value} {Q : Value → Prop} (hf : P.funcs[f]? = some fn) (hnt : fn.ntmps = nt) {c : Code} (hb : fn.body = some c) (hnm : (fn.name == "runtime.NumGoroutine") = false)
    (h : ∀ K vC at_ h, SOk bs at_ h → AWp P c (SkEnd P fn T bs vC K Q) (fun _ _ _ => False) (SkEnd P fn T bs vC K Q) (Env.start (.optr 1 0 :: as0.map AV.val) (nt - (as0.length + 1))) [.keep 2 K, skL T bs vC at_ h]) :
    AFnS P f T bs as0 Q := AFnS.of hf hb hnm (by rw [hnt]) rfl h

section
variable {P : Program} {env : Env} {os : List AO} {d : Option Tmp} {ty : TypeId} {pos : String} {af : Array Edge} {g : Option (Nat × Bool)}
end
section
variable {P : Program} {env : Env} {os : List AO} {d : Tmp} {ty : TypeId} {pos : String} {af : Array Edge} {g : Option (Nat × Bool)} {l rest : List Oper} {K : APost} {q : Md}
end
end Go.Proofs.Ytlkhcelodcneiaa
/-
  Functions that make a source of numbers out of bytes. No condition.
-/
namespace Go.Proofs.Ytlkhcelodcneiaa
open Go Go.RowKit

def AFnF (P : Program) (f : FuncId) (T : TypeId) (bs : List Int) : Prop :=
  HasBody P f ∧ ∀ w vC, BysAt w (fun _ => True) vC bs → Calls P f #[vC] w fun ev w' => ∃ g0 at_ h, ev = .returned g0.v ∧ SOk bs at_ h ∧ Sk T w.heap.size w' g0 vC at_ h ∧ Below w.heap.size w w'
theorem AFnF.of {P : Program} {f : FuncId} {fn : Func} {c : Code} {T : TypeId} {bs : List Int} {n : Nat} (hf : P.funcs[f]? = some fn) (hb : fn.body = some c) (hnm : (fn.name == "runtime.NumGoroutine") = false) (hn : fn.ntmps - 1 = n)
    (h : ∀ vC, AWp P c (fun _ _ => False) (fun _ _ _ => False) (fun env os => ∃ k at_ h, ResIs P fn env os (.optr k 0) ∧ os[k]? = some (skL T bs vC at_ h) ∧ SOk bs at_ h) (Env.start [.ro (roB vC bs)] n) []) : AFnF P f T bs := by
  refine ⟨⟨fn, c, hf, hnm, hb⟩, fun w vC hvC => calls_of_wp hf hb ?_⟩
  rw [show fn.ntmps - (#[vC] : Array Value).size = n from hn]
  have hvs : RVs w [.ro (roB vC bs)] #[vC] := ⟨rfl, fun i => by
    match i with
    | 0 => exact .ro ⟨rfl, hvC⟩
    | i + 1 => exact .any _⟩
  refine wp_mono (h vC w.heap.size w w [] _ (Rel.start hvs n) (Below.refl _ _)) ?_
  intro e a w' hq
  cases e with
  | normal => obtain ⟨_, _, _, _, _, _, hx⟩ := hq; exact hx.elim
  | exit j => obtain ⟨_, _, _, _, _, _, hx⟩ := hq; exact hx.elim
  | ret =>
    obtain ⟨env, os, gs, hr, hd, hbel, k, at_, hh, h1, h2, h3⟩ := hq
    obtain ⟨u, hu, hv⟩ := h1 _ _ _ _ hr
    cases hv with
    | @optr _ _ g hg =>
      obtain ⟨cs, d1, d2, d3, d4, d5, d6, d7⟩ := hr.ho _ _ _ hg h2
      match cs, d5 with
      | [z0, z1, z2], _ =>
        have q0 := d7 0
        have q1 := d7 1
        have q2 := d7 2
        have w0 : z0 = vC := by cases q0 with | ro h => exact h.1
        have w1 : z1 = .int .i64 at_ := by cases q1; rfl
        have w2 : z2 = .int .u64 hh := by cases q2; rfl
        subst w0 w1 w2
        exact ⟨hd, _, hu, g, at_, hh, by rw [d4], h3, ⟨d1, d6 _ (by simp), d2, d3, d4⟩, hbel⟩
  | goto l => exact (hq : False).elim
  | panic ch => exact (hq : False).elim
  | outgrown => exact (hq : False).elim
theorem AFnF.start {P : Program} {f : FuncId} {fn : Func} {nt : Nat} {T : TypeId} {bs : List Int} (hf : P.funcs[f]? = some fn) (hnt : fn.ntmps = nt) {c : Code} (hb : fn.body = some c) (hnm : (fn.name == "runtime.NumGoroutine") = false)
    (h : ∀ vC, AWp P c (fun _ _ => False) (fun _ _ _ => False) (fun env os => ∃ k at_ h, ResIs P fn env os (.optr k 0) ∧ os[k]? = some (skL T bs vC at_ h) ∧ SOk bs at_ h) (Env.start [.ro (roB vC bs)] (nt - 1)) []) : AFnF P f T bs :=
  AFnF.of hf hb hnm (by rw [hnt]) h

section
variable {P : Program} {env : Env} {os : List AO} {d : Option Tmp} {ty : TypeId} {pos : String} {af : Array Edge} {g : Option (Nat × Bool)}
end
section
variable {P : Program} {env : Env} {os : List AO} {d : Tmp} {ty : TypeId} {pos : String} {af : Array Edge} {l rest : List Oper} {K : APost}
end
end Go.Proofs.Ytlkhcelodcneiaa
/-
  A literal slice of four own rows, read as rows. No condition.
-/
namespace Go.Proofs.Ytlkhcelodcneiaa
open Go Go.RowKit
set_option linter.unusedSimpArgs false

section
variable {P : Program} {env : Env} {os : List AO} {d : Option Tmp} {ty : TypeId} {pos : String} {af : Array Edge} {g : Option (Nat × Bool)}
end
section
variable {P : Program} {env : Env} {os : List AO} {d : Tmp} {ty : TypeId} {pos : String} {af : Array Edge} {l rest : List Oper} {K : APost}
end
end Go.Proofs.Ytlkhcelodcneiaa
/-
  A source of numbers whose place and hash are not told; drawn regions that come to one of a family of states; functions that draw a list, or pick from one. No condition.
-/
namespace Go.Proofs.Ytlkhcelodcneiaa
open Go Go.RowKit
set_option linter.unusedSimpArgs false

section
variable {P : Program} {N : APost} {X : Nat → APost} {Rt : APost} {env : Env} {os : List AO} {l : List Oper}
end

def atR (n : Nat) : Ro where
  p _ _ v := ∃ a : Int, v = .int .i64 a ∧ 0 ≤ a ∧ a ≤ n
  up _ h := h
def hR : Ro where
  p _ _ v := ∃ a : Int, v = .int .u64 a ∧ 0 ≤ a ∧ a < 18446744073709551616
  up _ h := h
abbrev skO (T : TypeId) (bs : List Int) (a0 : AV) : AO := .bx T [a0, .ro (atR bs.length), .ro hR]

section
variable {P : Program} {env : Env} {os : List AO} {d : Option Tmp} {ty : TypeId} {pos : String} {af : Array Edge} {g : Option (Nat × Bool)}
end
section
variable {P : Program} {env : Env} {os : List AO} {d : Tmp} {ty : TypeId} {pos : String} {af : Array Edge} {l rest : List Oper} {K : APost}
/-- A call under a guard that is met. -/
theorem AOps.cag {op : Op} {g : Option (Nat × Bool)} {Q : AV → Env → List AO → Prop} (hw : wantedA l env ⟨some d, op, ty, pos, af, g⟩ = some true) (ho : COp P ⟨some d, op, ty, pos, af, g⟩ env os Q) (h : ∀ r e o, Q r e o → AOps P .seq l rest K (e.up d r) o) :
    AOps P .seq l (⟨some d, op, ty, pos, af, g⟩ :: rest) K env os := by
  intro base w0 w gs tm hr hb X Rt
  obtain ⟨f, args, hrun, hc⟩ := ho base w gs tm hr
  have hwa := wantedA_spec hr hw
  unfold wpList
  rw [if_pos hwa]
  refine .inl ?_
  unfold Oper.wp
  rw [hrun]
  refine hc.mono ?_
  rintro e w' ⟨v, r, env1, os1, gs', rfl, hq, hr', hv, hb'⟩
  exact h r env1 os1 hq base w0 w' gs' _ (hr'.put hv d) (hb.trans hb') X Rt
end

/-! ### Functions that draw a struct of a number and a list -/
def AFnD (P : Program) (f : FuncId) (T e : TypeId) (bs : List Int) (Q : Int → List Int → Prop) : Prop :=
  HasBody P f ∧ ∀ base w g0 vC at_ h, base ≤ w.heap.size → Sk T base w g0 vC at_ h → SOk bs at_ h → BysAt w (fun b => b ∉ g0.bl) vC bs →
    Calls P f #[g0.v] w fun ev w' => ∃ n xs g1 at' h', ev = .returned (.agg #[.int .i64 n, g1.v]) ∧ Q n xs ∧ SOk bs at' h' ∧ Sk T base w' g0 vC at' h' ∧ RO w.heap.size w' (fun _ => True) [] g1 (.sli e xs) ∧
      (∀ b, b ∈ g1.bl → w.heap.size ≤ b ∧ b < w'.heap.size) ∧ Below base w w' ∧ ∀ b, b < w.heap.size → b ∉ g0.bl → w'.heap[b]? = w.heap[b]?
def DEnd (P : Program) (fn : Func) (T e : TypeId) (bs : List Int) (vC : Value) (K : Kp) (Q : Int → List Int → Prop) (env : Env) (os : List AO) : Prop :=
  ∃ n xs A, ResIs P fn env os (.agg [.val (.int .i64 n), A]) ∧ ((∃ k, A = .own (k + 2) ∧ os[k + 2]? = some (.sli e xs)) ∨ (A = .val (.slice none 0 0) ∧ xs = [])) ∧ Q n xs ∧ ∃ tl, os = .keep 2 K :: skO T bs (.ro (roB vC bs)) :: tl
theorem ownsRow_up {w : World} {b0 b1 : Nat} {e : TypeId} {size n : Nat} {v : Value} {xs : List Value} (h : w.ownsRow b0 e size v n xs) (hb : ∀ b, v.ownBlock = some b → b1 ≤ b) : w.ownsRow b1 e size v n xs := by
  refine ⟨h.1, ?_⟩
  rcases h.2 with h2 | ⟨b, cap, cur, rfl, r⟩
  · exact .inl h2
  · exact .inr ⟨b, cap, cur, rfl, hb b rfl, r.2⟩

set_option maxHeartbeats 2000000 in
theorem AFnD.of {P : Program} {f : FuncId} {fn : Func} {c : Code} {T e : TypeId} {bs : List Int} {Q : Int → List Int → Prop} {n : Nat} (hf : P.funcs[f]? = some fn) (hb : fn.body = some c) (hnm : (fn.name == "runtime.NumGoroutine") = false)
    (hn : fn.ntmps - 1 = n)
    (h : ∀ K vC, AWp P c (DEnd P fn T e bs vC K Q) (fun _ _ _ => False) (DEnd P fn T e bs vC K Q) (Env.start [.optr 1 0] n) [.keep 2 K, skO T bs (.ro (roB vC bs))]) :
    AFnD P f T e bs Q := by
  refine ⟨⟨fn, c, hf, hnm, hb⟩, fun base w g0 vC at_ hh hbase hC hI hW => calls_of_wp hf hb ?_⟩
  rw [show fn.ntmps - (#[g0.v] : Array Value).size = n from hn]
  obtain ⟨c1, c1', c2, c3, c4⟩ := hC
  obtain ⟨⟨i1, i2⟩, i3, i4⟩ := hI
  let bl : List Nat := (List.range w.heap.size).filter fun b => decide (base ≤ b) && !(g0.bl).contains b
  let gk : Gh := ⟨undef, 0, bl, []⟩
  let K : Kp := ⟨fun b => w.heap[b]?, [gk, g0]⟩
  have hlt : g0.b < w.heap.size := (Array.getElem?_eq_some_iff.1 c1).1
  have hbl : ∀ b, b ∈ bl ↔ b < w.heap.size ∧ base ≤ b ∧ b ∉ g0.bl := by
    intro b
    simp only [bl, List.mem_filter, List.mem_range, Bool.and_eq_true, decide_eq_true_eq, Bool.not_eq_true', List.contains_eq_mem, decide_eq_false_iff_not]
  have okk : ∀ b, b ∉ g0.bl → okOf [gk, g0] [.keep 2 K, skO T bs (.ro (roB vC bs))] b := by
    intro b hb i x y hx hy hl
    match i with
    | 0 => cases hy; exact hl.elim
    | 1 => cases hx; exact hb
    | i + 2 => simp at hx
  have kp : Keeps (fun b => b ∉ g0.bl) (okOf [gk, g0] [.keep 2 K, skO T bs (.ro (roB vC bs))]) w w := fun b hb _ => ⟨okk b hb, rfl⟩
  have hrel : Rel base w [gk, g0] (Env.start [.optr 1 0] n) [.keep 2 K, skO T bs (.ro (roB vC bs))] (#[g0.v] ++ Array.replicate n undef) := by
    refine ⟨hbase, rfl, by simp [Env.start], fun i => ?_, ?_, ?_, ?_⟩
    · refine start_rv [.optr 1 0] n #[g0.v] (fun i => ?_) i
      match i with
      | 0 =>
        show RV w _ _ g0.v (.optr 1 0)
        rw [c4]
        exact .optr (g := g0) rfl
      | i + 1 => exact .any _
    · intro i x y hx hy
      match i with
      | 0 =>
        cases hx; cases hy
        exact ⟨fun b _ => rfl, rfl, fun i x h => h⟩
      | 1 =>
        cases hx; cases hy
        refine ⟨[vC, .int .i64 at_, .int .u64 hh], c1, c2, c3, c4, rfl, ?_, fun j => ?_⟩
        · intro z hz
          simp only [List.mem_cons, List.not_mem_nil, or_false] at hz
          rcases hz with rfl | rfl | rfl
          · exact c1'
          · rfl
          · rfl
        · match j with
          | 0 => exact .ro ⟨rfl, hW.mono kp⟩
          | 1 => exact .ro ⟨at_, rfl, i1, i2⟩
          | 2 => exact .ro ⟨hh, rfl, i3, i4⟩
          | j + 3 => exact .any _
      | i + 2 => simp at hx
    · intro i j a b o1 o2 hij ha1 hb1 ho1 ho2 _ _ c hc1 hc2
      match i, j with
      | 0, 0 => omega
      | 0, 1 =>
        cases ha1; cases hb1
        exact ((hbl c).1 hc1).2.2 hc2
      | 1, 0 =>
        cases ha1; cases hb1
        exact ((hbl c).1 hc2).2.2 hc1
      | 1, 1 => omega
      | i + 2, _ => simp at ha1
      | 0, j + 2 => simp at hb1
      | 1, j + 2 => simp at hb1
    · intro i x y hx hy _ b hb
      match i with
      | 0 => cases hx; exact ⟨((hbl b).1 hb).2.1, ((hbl b).1 hb).1⟩
      | 1 =>
        cases hx
        rw [c3] at hb
        simp only [List.mem_cons, List.not_mem_nil, or_false] at hb
        subst hb; exact ⟨c2, hlt⟩
      | i + 2 => simp at hx
  have fin : ∀ {env : Env} {os1 : List AO} {gs2 : List Gh} {a : Act} {w' : World}, Rel base w' gs2 env os1 a.tmps → Below base w w' → DEnd P fn T e bs vC K Q env os1 →
      ∃ u, (results fn a.tmps).run P w' = .ok u w' ∧ (∃ n xs g1 at' h', Ending.returned u = .returned (.agg #[.int .i64 n, g1.v]) ∧ Q n xs ∧ SOk bs at' h' ∧ Sk T base w' g0 vC at' h' ∧ RO w.heap.size w' (fun _ => True) [] g1 (.sli e xs) ∧
      (∀ b, b ∈ g1.bl → w.heap.size ≤ b ∧ b < w'.heap.size) ∧ Below base w w' ∧ ∀ b, b < w.heap.size → b ∉ g0.bl → w'.heap[b]? = w.heap[b]?) := by
    rintro env os1 gs2 a w' hr hbel ⟨n1, xs, A, hres, hA, hQ, tl, rfl⟩
    obtain ⟨u, hu, hv⟩ := hres _ _ _ _ hr
    have hgl := hr.hl
    obtain ⟨x0, hx0⟩ : ∃ x, gs2[0]? = some x := ⟨_, List.getElem?_eq_getElem (by rw [hgl]; simp)⟩
    obtain ⟨r1, r2, r3⟩ := hr.ho 0 _ _ hx0 rfl
    have p0 := r3 0 gk rfl
    have p1 := r3 1 g0 rfl
    have e0 : x0 = gk := by rw [hx0] at p0; exact Option.some.inj p0
    subst e0
    have o1 := hr.ho 1 _ _ p1 rfl
    obtain ⟨cs, d1, d2, d3, d4, d5, d6, d7⟩ := o1
    match cs, d5 with
    | [z0, z1, z2], _ =>
      have q0 := d7 0
      have q1 : RV w' _ gs2 z1 (.ro (atR bs.length)) := d7 1
      have q2 : RV w' _ gs2 z2 (.ro hR) := d7 2
      have w0 : z0 = vC := by cases q0 with | ro h => exact h.1
      obtain ⟨at', e1, b1, b2⟩ : ∃ a : Int, z1 = .int .i64 a ∧ 0 ≤ a ∧ a ≤ bs.length := by cases q1 with | ro h => exact h
      obtain ⟨h', e2, b3, b4⟩ : ∃ a : Int, z2 = .int .u64 a ∧ 0 ≤ a ∧ a < 18446744073709551616 := by cases q2 with | ro h => exact h
      subst w0 e1 e2
      have hfr : ∀ b, b < w.heap.size → b ∉ g0.bl → w'.heap[b]? = w.heap[b]? := fun b hb hok => by
        rcases Nat.lt_or_ge b base with h6 | h6
        · exact hbel.block b h6
        · exact r1 b ((hbl b).2 ⟨hb, h6, hok⟩)
      have hSk : Sk T base w' g0 z0 at' h' := ⟨d1, c1', c2, c3, c4⟩
      have hag : ∃ s, u = .agg #[.int .i64 n1, s] ∧ RV w' (okOf gs2 (.keep 2 K :: skO T bs (.ro (roB z0 bs)) :: tl)) gs2 s A := by
        cases hv with
        | @agg vs _ f1 f2 f3 =>
          match vs, f1 with
          | [s0, s1], _ =>
            have t0 := f3 0
            have t1 := f3 1
            simp only [List.getD_cons_zero, List.getD_cons_succ] at t0 t1
            cases t0
            exact ⟨s1, rfl, t1⟩
      obtain ⟨s, rfl, hs⟩ := hag
      rcases hA with ⟨k, rfl, hk⟩ | ⟨rfl, rfl⟩
      · cases hs with
        | @own _ g1 hg =>
          obtain ⟨a1, a2, a3⟩ := hr.ho _ _ _ hg hk
          have hbnd : ∀ b, b ∈ g1.bl → w.heap.size ≤ b ∧ b < w'.heap.size := fun b hb => by
            have h5 := hr.hn _ _ _ hg hk (by simp) b hb
            refine ⟨?_, h5.2⟩
            rcases Nat.lt_or_ge b w.heap.size with h6 | h6
            · exfalso
              by_cases h7 : b ∈ g0.bl
              · exact hr.hd (k + 2) 1 g1 g0 _ _ (by omega) hg p1 hk rfl (by simp) (by simp) b hb h7
              · exact hr.hd (k + 2) 0 g1 gk _ _ (by omega) hg p0 hk rfl (by simp) (by simp) b hb ((hbl b).2 ⟨h6, h5.1, h7⟩)
            · exact h6
          refine ⟨_, hu, n1, xs, g1, at', h', rfl, hQ, ⟨⟨b1, b2⟩, b3, b4⟩, hSk, ⟨ownsRow_up a1 fun b hb => ?_, a2, a3⟩, hbnd, hbel, hfr⟩
          exact (hbnd b (by
            rcases a3 with ⟨h3, h4⟩ | ⟨h3, h4⟩
            · rw [h3] at hb; cases hb
            · rw [h4]; rw [h3] at hb; cases hb; simp)).1
      · cases hs
        refine ⟨_, hu, n1, [], ⟨.slice none 0 0, 0, [], []⟩, at', h', rfl, hQ, ⟨⟨b1, b2⟩, b3, b4⟩, hSk, ⟨⟨rfl, .inl ⟨rfl, rfl⟩⟩, by simp, .inl ⟨rfl, rfl⟩⟩, fun b hb => by simp at hb, hbel, hfr⟩
  refine wp_mono (h K vC base w w _ _ hrel (Below.refl _ _)) ?_
  intro ev a w' hq
  cases ev with
  | normal =>
    obtain ⟨env, os1, gs1, hr, hd, hbel, hx⟩ := hq
    obtain ⟨u, hu, hw⟩ := fin hr hbel hx
    exact ⟨hd, u, hu, hw⟩
  | exit j => obtain ⟨_, _, _, _, _, _, hx⟩ := hq; exact hx.elim
  | ret =>
    obtain ⟨env, os1, gs1, hr, hd, hbel, hx⟩ := hq
    obtain ⟨u, hu, hw⟩ := fin hr hbel hx
    exact ⟨hd, u, hu, hw⟩
  | goto l => exact (hq : False).elim
  | panic ch => exact (hq : False).elim
  | outgrown => exact (hq : False).elim
theorem AFnD.start {P : Program} {f : FuncId} {fn : Func} {nt : Nat} {T e : TypeId} {bs : List Int} {Q : Int → List Int → Prop} (hf : P.funcs[f]? = some fn) (hnt : fn.ntmps = nt) {c : Code} (hb : fn.body = some c) (hnm : (fn.name == "runtime.NumGoroutine") = false)
    (h : ∀ K vC, AWp P c (DEnd P fn T e bs vC K Q) (fun _ _ _ => False) (DEnd P fn T e bs vC K Q) (Env.start [.optr 1 0] (nt - 1)) [.keep 2 K, skO T bs (.ro (roB vC bs))]) :
    AFnD P f T e bs Q := AFnD.of hf hb hnm (by rw [hnt]) h
end Go.Proofs.Ytlkhcelodcneiaa
/-
  Calls that make memory under a guard that is met. No condition.
-/
namespace Go.Proofs.Ytlkhcelodcneiaa
open Go Go.RowKit
section
variable {P : Program} {env : Env} {os : List AO} {d : Tmp} {ty : TypeId} {pos : String} {af : Array Edge} {l rest : List Oper} {K : APost}
theorem w_callmg {f : FuncId} {args : List AV} {Q : AV → List AO → Prop} {xs : List Operand} {ats : Array TypeId} {g : Option (Nat × Bool)} (hc : AFn P f args Q) (hw : wantedA l env ⟨some d, .call { callee := .value (.func f), args := xs.toArray, argTypes := ats }, ty, pos, af, g⟩ = some true) (hi : Imms os (xs.map (AV.ev env)) args)
    (h' : ∀ r os0, Q r os0 → AOps P .seq l rest K (env.up d (r.sh os.length)) (os ++ os0.map (AO.sh os.length))) :
    AOps P .seq l (⟨some d, .call { callee := .value (.func f), args := xs.toArray, argTypes := ats }, ty, pos, af, g⟩ :: rest) K env os :=
  AOps.cag hw (c_call hc hi) fun r e o ⟨r0, os0, hq, h1, h2, h3⟩ => by subst h1; subst h2; subst h3; exact h' r0 os0 hq
end
end Go.Proofs.Ytlkhcelodcneiaa
/-
  The splice weight, walked: the reference. No condition.
-/
namespace Go.Proofs.Ytlkhcelodcneiaa
open Go Go.RowKit
attribute [local irreducible] AWp AOps ResIs Ret1 QOp LOp COp AFnV AFn Imms LeE LeO
set_option maxHeartbeats 1000000
set_option linter.unusedSimpArgs false
set_option linter.unusedVariables false

/-- The determinant of the vertices behind w. -/
noncomputable def swD (W : List Int) (E : List (List Int)) (v w : Int) : Int × Bool := gdV (subW W (bF (kpb W E v w))) (subE E (bF (kpb W E v w)))
open Classical in
/-- The splice weight and the code. -/
noncomputable def swV (W : List Int) (E : List (List Int)) (v w : Int) : Int × Int :=
  if slC W E v w = 0 then (if w ∈ nearL E v then (if (swD W E v w).2 = true then ((swD W E v w).1, 0) else (0, 3)) else (0, 5)) else (0, slC W E v w)
/-- What the code 0 means. -/
theorem slC_0 {W : List Int} {E : List (List Int)} {v w : Int} (h : slC W E v w = 0) : gok W E = true ∧ ((0 ≤ v ∧ v < W.length) ∧ (0 ≤ w ∧ w < W.length)) ∧ E.length + 1 = W.length := by
  unfold slC at h
  split at h
  · rename_i hv
    split at h
    · rename_i hr
      split at h
      · rename_i hc
        exact ⟨hv, hr, hc⟩
      · cases h
    · cases h
  · cases h
set_option maxHeartbeats 8000000 in
theorem specSW_c (W : List Int) (E : List (List Int)) (v w : Int) (iv : inI v) (iw : inI w) : AFnV Try.prog 5 [.agg [.ints W, .intss E], .i v, .i w] (.tuple #[.int .i64 (swV W E v w).1, .int .i64 (swV W E v w).2]) := by
  have hc := l13Code_c W E v w
  unfold inI at iv iw
  by_cases h0 : slC W E v w = 0
  · obtain ⟨hv, ⟨rv, rw'⟩, hcon⟩ := slC_0 h0
    have hG := (gok_iff.1 hv).gr
    have hn := hG.n
    have hF := hG.fo.fst
    rw [h0] at hc
    have hnear := l11Near_c W E hG v
    have hll := near_len hG v
    have hh := l01Hs_c (nearL E v) w (by omega)
    by_cases hw : w ∈ nearL E v
    · rw [decide_eq_true hw] at hh
      have hT := trC_ok hF rv
      have hall := one_root hF ((one_rt hv).2 hcon) rv hT
      have hwt := l13Weight_c W E (kpb W E v w) v w _ _ hG (kpb_len W E v w) rv hT hall hw (fun i hi => kpb_get hi) (kpb_sub hG rv hw hall)
      have e : swV W E v w = if (swD W E v w).2 = true then ((swD W E v w).1, 0) else (0, 3) := by unfold swV; rw [if_pos h0, if_pos hw]
      rw [e]
      unfold swD
      generalize (gdV (subW W (bF (kpb W E v w))) (subE E (bF (kpb W E v w)))).1 = d at *
      generalize (gdV (subW W (bF (kpb W E v w))) (subE E (bF (kpb W E v w)))).2 = b at *
      cases b with
      | true =>
        rw [if_pos rfl] at hwt ⊢
        (refine AFnV.start Try.func5 Try.ntmps5 rfl (by kernel_rfl) fun hk => ?_; simp only [Env.start, enumF, List.length_cons, List.length_nil, Nat.reduceAdd, Nat.reduceSub, List.cons_append, List.nil_append])
        repeat' (first | (apply AOps.nil; try simp only [List.nil_append, List.cons_append, List.set_cons_zero, List.set_cons_succ, List.length_cons, List.length_nil, Nat.reduceAdd, AV.sh, AV.sh1, AV.sh0, AO.sh, List.map_cons, List.map_nil, Nat.zero_add, Nat.add_zero, setAll]) | ((apply AOps.splitP; exact rfl; exact rfl) <;> intro h) | (apply w_move; exact rfl; exact rfl) | (apply w_assign; exact rfl; exact rfl) | apply AWp.seq | apply AWp.region | ((apply AWp.condP; exact rfl) <;> intro h) | (apply AWp.condF; exact rfl) | apply AWp.ret | apply AWp.skip | (apply w_skip; exact rfl) | (apply w_pickT; exact rfl; exact rfl; exact rfl) | (apply w_pickF; exact rfl; exact rfl; exact rfl) | (apply w_call (hc); exact rfl; exact rfl; focus ((repeat (first | exact im_nil | refine im_cons rfl (im_agg2 (.ints _) (.intss _)) ?_ | refine im_cons rfl (.sli rfl) ?_)); done)) | (apply w_callmg (hnear); (exact rfl); (focus ((repeat (first | exact im_nil | refine im_cons rfl (im_agg2 (.ints _) (.intss _)) ?_ | refine im_cons rfl (.val _) ?_)); done)); rintro r os0 ⟨rfl, rfl⟩; try simp only [List.nil_append, List.cons_append, List.set_cons_zero, List.set_cons_succ, List.length_cons, List.length_nil, Nat.reduceAdd, AV.sh, AV.sh1, AV.sh0, AO.sh, List.map_cons, List.map_nil, Nat.zero_add, Nat.add_zero, setAll]) | (apply w_call (hh); exact rfl; exact rfl; focus ((repeat (first | exact im_nil | refine im_cons rfl (.val _) ?_ | refine im_cons rfl (.sli rfl) ?_)); done)) | (apply w_call (hwt); exact rfl; exact rfl; focus ((repeat (first | exact im_nil | refine im_cons rfl (im_agg2 (.ints _) (.intss _)) ?_ | refine im_cons rfl (.val _) ?_)); done)) | omega | ((first | apply w_eql | apply w_neq | apply w_extv | apply w_bs2); iterate 3 exact rfl) | ((first | apply w_not | apply w_boxa); iterate 2 exact rfl) | (apply w_ldst; iterate 5 exact rfl) | (apply inI_of <;> omega))
        all_goals exact .vv2 Try.results5 rfl rfl
      | false =>
        rw [if_neg (by simp)] at hwt ⊢
        (refine AFnV.start Try.func5 Try.ntmps5 rfl (by kernel_rfl) fun hk => ?_; simp only [Env.start, enumF, List.length_cons, List.length_nil, Nat.reduceAdd, Nat.reduceSub, List.cons_append, List.nil_append])
        repeat' (first | (apply AOps.nil; try simp only [List.nil_append, List.cons_append, List.set_cons_zero, List.set_cons_succ, List.length_cons, List.length_nil, Nat.reduceAdd, AV.sh, AV.sh1, AV.sh0, AO.sh, List.map_cons, List.map_nil, Nat.zero_add, Nat.add_zero, setAll]) | ((apply AOps.splitP; exact rfl; exact rfl) <;> intro h) | (apply w_move; exact rfl; exact rfl) | (apply w_assign; exact rfl; exact rfl) | apply AWp.seq | apply AWp.region | ((apply AWp.condP; exact rfl) <;> intro h) | (apply AWp.condT; exact rfl) | (apply AWp.condF; exact rfl) | apply AWp.ret | apply AWp.skip | (apply w_skip; exact rfl) | (apply w_pickT; exact rfl; exact rfl; exact rfl) | (apply w_pickF; exact rfl; exact rfl; exact rfl) | (apply w_call (hc); exact rfl; exact rfl; focus ((repeat (first | exact im_nil | refine im_cons rfl (im_agg2 (.ints _) (.intss _)) ?_ | refine im_cons rfl (.sli rfl) ?_)); done)) | (apply w_callmg (hnear); (exact rfl); (focus ((repeat (first | exact im_nil | refine im_cons rfl (im_agg2 (.ints _) (.intss _)) ?_ | refine im_cons rfl (.val _) ?_)); done)); rintro r os0 ⟨rfl, rfl⟩; try simp only [List.nil_append, List.cons_append, List.set_cons_zero, List.set_cons_succ, List.length_cons, List.length_nil, Nat.reduceAdd, AV.sh, AV.sh1, AV.sh0, AO.sh, List.map_cons, List.map_nil, Nat.zero_add, Nat.add_zero, setAll]) | (apply w_call (hh); exact rfl; exact rfl; focus ((repeat (first | exact im_nil | refine im_cons rfl (.val _) ?_ | refine im_cons rfl (.sli rfl) ?_)); done)) | (apply w_call (hwt); exact rfl; exact rfl; focus ((repeat (first | exact im_nil | refine im_cons rfl (im_agg2 (.ints _) (.intss _)) ?_ | refine im_cons rfl (.val _) ?_)); done)) | omega | ((first | apply w_eql | apply w_neq | apply w_extv | apply w_bs2); iterate 3 exact rfl) | ((first | apply w_not | apply w_boxa); iterate 2 exact rfl) | (apply w_ldst; iterate 5 exact rfl) | (apply inI_of <;> omega))
        all_goals exact .vv2 Try.results5 rfl rfl
    · rw [decide_eq_false hw] at hh
      have e : swV W E v w = (0, 5) := by unfold swV; rw [if_pos h0, if_neg hw]
      rw [e]
      (refine AFnV.start Try.func5 Try.ntmps5 rfl (by kernel_rfl) fun hk => ?_; simp only [Env.start, enumF, List.length_cons, List.length_nil, Nat.reduceAdd, Nat.reduceSub, List.cons_append, List.nil_append])
      repeat' (first | (apply AOps.nil; try simp only [List.nil_append, List.cons_append, List.set_cons_zero, List.set_cons_succ, List.length_cons, List.length_nil, Nat.reduceAdd, AV.sh, AV.sh1, AV.sh0, AO.sh, List.map_cons, List.map_nil, Nat.zero_add, Nat.add_zero, setAll]) | ((apply AOps.splitP; exact rfl; exact rfl) <;> intro h) | (apply w_move; exact rfl; exact rfl) | (apply w_assign; exact rfl; exact rfl) | apply AWp.seq | apply AWp.region | ((apply AWp.condP; exact rfl) <;> intro h) | (apply AWp.condT; exact rfl) | (apply AWp.condF; exact rfl) | apply AWp.ret | apply AWp.skip | (apply w_skip; exact rfl) | (apply w_pickT; exact rfl; exact rfl; exact rfl) | (apply w_pickF; exact rfl; exact rfl; exact rfl) | (apply w_call (hc); exact rfl; exact rfl; focus ((repeat (first | exact im_nil | refine im_cons rfl (im_agg2 (.ints _) (.intss _)) ?_ | refine im_cons rfl (.sli rfl) ?_)); done)) | (apply w_callmg (hnear); (exact rfl); (focus ((repeat (first | exact im_nil | refine im_cons rfl (im_agg2 (.ints _) (.intss _)) ?_ | refine im_cons rfl (.val _) ?_)); done)); rintro r os0 ⟨rfl, rfl⟩; try simp only [List.nil_append, List.cons_append, List.set_cons_zero, List.set_cons_succ, List.length_cons, List.length_nil, Nat.reduceAdd, AV.sh, AV.sh1, AV.sh0, AO.sh, List.map_cons, List.map_nil, Nat.zero_add, Nat.add_zero, setAll]) | (apply w_call (hh); exact rfl; exact rfl; focus ((repeat (first | exact im_nil | refine im_cons rfl (.val _) ?_ | refine im_cons rfl (.sli rfl) ?_)); done)) | omega | ((first | apply w_eql | apply w_neq | apply w_bs2); iterate 3 exact rfl) | ((first | apply w_not | apply w_boxa); iterate 2 exact rfl) | (apply w_ldst; iterate 5 exact rfl) | (apply inI_of <;> omega))
      all_goals exact .vv2 Try.results5 rfl rfl
  · have e : swV W E v w = (0, slC W E v w) := by unfold swV; rw [if_neg h0]
    rw [e]
    generalize slC W E v w = c at *
    (refine AFnV.start Try.func5 Try.ntmps5 rfl (by kernel_rfl) fun hk => ?_; simp only [Env.start, enumF, List.length_cons, List.length_nil, Nat.reduceAdd, Nat.reduceSub, List.cons_append, List.nil_append])
    repeat' (first | (apply AOps.nil; try simp only [List.nil_append, List.cons_append, List.set_cons_zero, List.set_cons_succ, List.length_cons, List.length_nil, Nat.reduceAdd, AV.sh, AV.sh1, AV.sh0, AO.sh, List.map_cons, List.map_nil, Nat.zero_add, Nat.add_zero, setAll]) | ((apply AOps.splitP; exact rfl; exact rfl) <;> intro h) | (apply w_move; exact rfl; exact rfl) | (apply w_assign; exact rfl; exact rfl) | apply AWp.seq | apply AWp.region | ((apply AWp.condP; exact rfl) <;> intro h) | (apply AWp.condF; exact rfl) | apply AWp.ret | apply AWp.skip | (apply w_skip; exact rfl) | (apply w_pickF; exact rfl; exact rfl; exact rfl) | (apply w_call (hc); exact rfl; exact rfl; focus ((repeat (first | exact im_nil | refine im_cons rfl (im_agg2 (.ints _) (.intss _)) ?_ | refine im_cons rfl (.sli rfl) ?_)); done)) | omega | ((first | apply w_eql | apply w_neq | apply w_bs2); iterate 3 exact rfl) | ((apply w_boxa); iterate 2 exact rfl) | (apply w_ldst; iterate 5 exact rfl) | (apply inI_of <;> omega))
    all_goals exact .vv2 Try.results5 rfl rfl
end Go.Proofs.Ytlkhcelodcneiaa
/-
  Whether two lists are equal, walked. No condition.
-/
namespace Go.Proofs.Ytlkhcelodcneiaa
open Go Go.RowKit
attribute [local irreducible] AWp AOps ResIs Ret1 QOp LOp COp AFnV AFn Imms LeE LeO
set_option maxHeartbeats 1000000
set_option linter.unusedSimpArgs false
set_option linter.unusedVariables false

set_option maxHeartbeats 4000000 in
theorem slicesEqual_c (xs ys : List Int) : AFnV Try.prog 35 [.ints xs, .ints ys] (.bool (decide (xs = ys))) := by
  (refine AFnV.start Try.func35 Try.ntmps35 rfl (by kernel_rfl) fun hk0 => ?_; simp only [Env.start, enumF, List.length_cons, List.length_nil, Nat.reduceAdd, Nat.reduceSub, List.cons_append, List.nil_append])
  obtain ⟨k1, k2⟩ : ArgOk (.ints xs) := hk0 _ (by simp)
  obtain ⟨k3, k4⟩ : ArgOk (.ints ys) := hk0 _ (by simp)
  by_cases hl : xs.length = ys.length
  · repeat' (first | (apply AOps.nil; try simp only [List.nil_append, List.cons_append, List.set_cons_zero, List.set_cons_succ, List.length_cons, List.length_nil, Nat.reduceAdd, AV.sh, AV.sh1, AV.sh0, AO.sh, List.map_cons, List.map_nil, Nat.zero_add, Nat.add_zero, setAll]) | (apply w_move; exact rfl; exact rfl) | (apply w_assign; exact rfl; exact rfl) | apply AWp.seq | apply AWp.region | ((apply AWp.condP; exact rfl) <;> intro h) | apply AWp.block | apply AWp.ret | apply AWp.skip | (apply w_len; exact rfl; exact rfl; first | exact .ints _ | exact .intss _ | exact .sli rfl | exact .sls rfl | exact .slr rfl | exact .orow rfl | exact .nil) | omega | ((apply w_neq); iterate 3 exact rfl))
    refine AWp.loop (ι := Nat) (fun i => ⟨26, [(0, .ints xs), (1, .ints ys), (12, .i xs.length), (13, .i i)]⟩) (fun _ => []) (fun i => i ≤ xs.length ∧ xs.take i = ys.take i) (fun i => xs.length - i) 0 ⟨by omega, rfl⟩ ⟨lee rfl (by (repeat (first | exact le_nil | refine le_eq rfl rfl ?_))), by (repeat (exact lo_nil)), rfl, rfl⟩ ?_
    rintro i ⟨i0, i1⟩
    by_cases hi : i < xs.length
    · by_cases he : geti xs i = geti ys i
      · repeat' (first | (apply AOps.nil; try simp only [List.nil_append, List.cons_append, List.set_cons_zero, List.set_cons_succ, List.length_cons, List.length_nil, Nat.reduceAdd, AV.sh, AV.sh1, AV.sh0, AO.sh, List.map_cons, List.map_nil, Nat.zero_add, Nat.add_zero, setAll]) | (apply w_move; exact rfl; exact rfl) | (apply w_assign; exact rfl; exact rfl) | apply AWp.seq | apply AWp.region | ((apply AWp.condP; exact rfl) <;> intro h) | apply AWp.block | apply AWp.ret | apply AWp.exit | apply AWp.skip | (apply AWp.regionQ; kernel_rfl; kernel_rfl) | omega | ((first | apply w_lss | apply w_neq | apply w_add | apply w_idx | apply w_ld); iterate 3 exact rfl) | (apply inI_of <;> omega))
        refine ⟨i + 1, ⟨by omega, ?_⟩, by omega, ⟨lee rfl (by (repeat (first | exact le_nil | refine le_eq rfl rfl ?_))), by (repeat (exact lo_nil)), rfl, rfl⟩⟩
        rw [List.take_succ_eq_append_getElem hi, List.take_succ_eq_append_getElem (by omega), i1]
        simp only [geti, Int.toNat_natCast] at he
        rw [List.getD_eq_getElem?_getD, List.getD_eq_getElem?_getD, List.getElem?_eq_getElem hi, List.getElem?_eq_getElem (by omega)] at he
        simp only [Option.getD_some] at he
        rw [he]
      · repeat' (first | (apply AOps.nil; try simp only [List.nil_append, List.cons_append, List.set_cons_zero, List.set_cons_succ, List.length_cons, List.length_nil, Nat.reduceAdd, AV.sh, AV.sh1, AV.sh0, AO.sh, List.map_cons, List.map_nil, Nat.zero_add, Nat.add_zero, setAll]) | (apply w_move; exact rfl; exact rfl) | (apply w_assign; exact rfl; exact rfl) | apply AWp.seq | apply AWp.region | ((apply AWp.condP; exact rfl) <;> intro h) | apply AWp.block | apply AWp.ret | apply AWp.exit | apply AWp.skip | (apply AWp.regionQ; kernel_rfl; kernel_rfl) | omega | ((first | apply w_lss | apply w_neq | apply w_idx | apply w_ld); iterate 3 exact rfl))
        exact .bool Try.results35 rfl (decide_eq_false fun e => he (by rw [e])).symm
    · repeat' (first | (apply AOps.nil; try simp only [List.nil_append, List.cons_append, List.set_cons_zero, List.set_cons_succ, List.length_cons, List.length_nil, Nat.reduceAdd, AV.sh, AV.sh1, AV.sh0, AO.sh, List.map_cons, List.map_nil, Nat.zero_add, Nat.add_zero, setAll]) | (apply w_move; exact rfl; exact rfl) | (apply w_assign; exact rfl; exact rfl) | apply AWp.seq | apply AWp.region | ((apply AWp.condP; exact rfl) <;> intro h) | apply AWp.block | apply AWp.ret | apply AWp.exit | apply AWp.skip | (apply AWp.regionQ; kernel_rfl; kernel_rfl) | omega | ((apply w_lss); iterate 3 exact rfl))
      refine .bool Try.results35 rfl (decide_eq_true ?_).symm
      rw [List.take_of_length_le (by omega), List.take_of_length_le (by omega)] at i1
      exact i1
  · repeat' (first | (apply AOps.nil; try simp only [List.nil_append, List.cons_append, List.set_cons_zero, List.set_cons_succ, List.length_cons, List.length_nil, Nat.reduceAdd, AV.sh, AV.sh1, AV.sh0, AO.sh, List.map_cons, List.map_nil, Nat.zero_add, Nat.add_zero, setAll]) | (apply w_move; exact rfl; exact rfl) | (apply w_assign; exact rfl; exact rfl) | apply AWp.seq | apply AWp.region | ((apply AWp.condP; exact rfl) <;> intro h) | apply AWp.block | apply AWp.ret | apply AWp.skip | (apply w_len; exact rfl; exact rfl; first | exact .ints _ | exact .intss _ | exact .sli rfl | exact .sls rfl | exact .slr rfl | exact .orow rfl | exact .nil) | omega | ((apply w_neq); iterate 3 exact rfl))
    exact .bool Try.results35 rfl (decide_eq_false fun e => hl (by rw [e])).symm

end Go.Proofs.Ytlkhcelodcneiaa
/-
  Functions that hand back what they read of what they were handed. No condition.
-/
namespace Go.Proofs.Ytlkhcelodcneiaa
open Go Go.RowKit
set_option linter.unusedVariables false

/-- Memory of other hands: nothing of it changes. -/
def snapOb (S : Nat → Option Obj) : Ob where
  p _ w g := (∀ b, b ∈ g.bl → w.heap[b]? = S b) ∧ g.v = .bool false
  up hb h := ⟨fun b hm => by rw [hb b hm]; exact h.1 b hm, h.2⟩
  lower _ h := h
  one h := by rw [h.2]; exact ⟨rfl, rfl⟩
/-- Values that name no handle. -/
def AV.hf0 : AV → Prop
  | .any => True
  | .val _ => True
  | .ints _ => True
  | .intss _ => True
  | .ro _ => True
  | _ => False
def AV.hf1 : AV → Prop
  | .agg l => ∀ a ∈ l, a.hf0
  | a => a.hf0
def AV.hf : AV → Prop
  | .agg l => ∀ a ∈ l, a.hf0
  | .tup l => ∀ a ∈ l, a.hf1
  | a => a.hf0
section
variable {w w' : World} {ok ok' : Nat → Prop} {gs gs' : List Gh}
theorem RV.hfm0 {v : Value} {a : AV} (hf : a.hf0) (k : Keeps ok ok' w w') (hv : RV w ok gs v a) : RV w' ok' gs' v a := by
  cases a with
  | any => exact .any v
  | val u => cases hv with | val => exact .val _
  | ints xs => cases hv with | ints h => exact .ints (h.mono k)
  | intss xs => cases hv with | intss h => exact .intss (h.mono k)
  | ro r => cases hv with | ro h => exact .ro (r.up k h)
  | _ => exact hf.elim
theorem RV.hfm1 {v : Value} {a : AV} (hf : a.hf1) (k : Keeps ok ok' w w') (hv : RV w ok gs v a) : RV w' ok' gs' v a := by
  cases a with
  | agg l => cases hv with | agg h1 h3 h2 => exact .agg h1 h3 (fun i => RV.hfm0 (getD_mem_any hf trivial i) k (h2 i))
  | any => exact .any v
  | val u => exact RV.hfm0 (a := .val u) trivial k hv
  | ints xs => exact RV.hfm0 (a := .ints xs) trivial k hv
  | intss xs => exact RV.hfm0 (a := .intss xs) trivial k hv
  | ro r => exact RV.hfm0 (a := .ro r) trivial k hv
  | _ => exact hf.elim
theorem RV.hfm {v : Value} {a : AV} (hf : a.hf) (k : Keeps ok ok' w w') (hv : RV w ok gs v a) : RV w' ok' gs' v a := by
  cases a with
  | agg l => exact RV.hfm1 (a := .agg l) hf k hv
  | tup l => cases hv with | tup h1 h2 => exact .tup h1 (fun i => RV.hfm1 (getD_mem_any hf trivial i) k (h2 i))
  | any => exact .any v
  | val u => exact RV.hfm0 (a := .val u) trivial k hv
  | ints xs => exact RV.hfm0 (a := .ints xs) trivial k hv
  | intss xs => exact RV.hfm0 (a := .intss xs) trivial k hv
  | ro r => exact RV.hfm0 (a := .ro r) trivial k hv
  | _ => exact hf.elim
end
/-- The function hands back r, which may read what the arguments read, and leaves what was there. -/
def AFnK (P : Program) (f : FuncId) (args : List AV) (Q : AV → Prop) : Prop :=
  HasBody P f ∧ (∀ a ∈ args, a.hf1) ∧ ∀ (w : World) (vs : Array Value) (okr : Nat → Prop), vs.size = args.length → (∀ i : Nat, RV w okr [] (vs.getD i undef) (args.getD i .any)) →
    Calls P f vs w fun e w' => ∃ v r, e = .returned v ∧ Q r ∧ r.hf ∧ RV w' (fun b => b < w.heap.size → okr b) [] v r ∧ Below w.heap.size w w'
theorem AFnK.of {P : Program} {f : FuncId} {fn : Func} {c : Code} {args : List AV} {Q : AV → Prop} {n : Nat} (hf : P.funcs[f]? = some fn) (hb : fn.body = some c) (hnm : (fn.name == "runtime.NumGoroutine") = false) (hn : fn.ntmps - args.length = n) (ha : ∀ a ∈ args, a.hf1)
    (h : ∀ K q, AWp P c (fun _ _ => False) (fun _ _ _ => False) (fun env os => ∃ r, ResIs P fn env os r ∧ (∃ tl, os = .keep 2 K :: .ob q :: tl) ∧ r.hf ∧ Q r) (Env.start args n) [.keep 2 K, .ob q]) :
    AFnK P f args Q := by
  refine ⟨⟨fn, c, hf, hnm, hb⟩, ha, fun w vs okr hsz hvs => calls_of_wp hf hb ?_⟩
  rw [show fn.ntmps - vs.size = n by rw [hsz]; exact hn]
  open Classical in
  let bl1 : List Nat := (List.range w.heap.size).filter fun b => decide (okr b)
  open Classical in
  let bl2 : List Nat := (List.range w.heap.size).filter fun b => decide (¬ okr b)
  let gk : Gh := ⟨undef, 0, bl1, []⟩
  let gq : Gh := ⟨.bool false, 0, bl2, []⟩
  let K : Kp := ⟨fun b => w.heap[b]?, [gk, gq]⟩
  have m1 : ∀ b, b ∈ bl1 ↔ b < w.heap.size ∧ okr b := fun b => by simp [bl1]
  have m2 : ∀ b, b ∈ bl2 ↔ b < w.heap.size ∧ ¬ okr b := fun b => by simp [bl2]
  have hkeep : Keeps okr (okOf [gk, gq] [.keep 2 K, .ob (snapOb fun b => w.heap[b]?)]) w w := by
    intro b hbk _
    refine ⟨fun i x y hx hy hny hm => ?_, rfl⟩
    match i, hx, hy with
    | 0, hx, hy => simp at hy; subst hy; exact hny.elim
    | 1, hx, hy => simp at hx; subst hx; exact ((m2 b).1 hm).2 hbk
    | i + 2, hx, _ => simp at hx
  have hrel : Rel 0 w [gk, gq] (Env.start args n) [.keep 2 K, .ob (snapOb fun b => w.heap[b]?)] (vs ++ Array.replicate n undef) := by
    refine ⟨Nat.zero_le _, rfl, by simp [Env.start, hsz], fun i => start_rv args n vs (fun i => RV.hfm1 (getD_mem_any ha trivial i) hkeep (hvs i)) i, ?_, ?_, ?_⟩
    · intro i x y hx hy
      match i, hx, hy with
      | 0, hx, hy =>
        simp at hx hy; subst hx; subst hy
        exact ⟨fun b _ => rfl, rfl, fun i x h => h⟩
      | 1, hx, hy =>
        simp at hx hy; subst hx; subst hy
        exact ⟨fun b _ => rfl, rfl⟩
      | i + 2, hx, _ => simp at hx
    · intro i j g1 g2 o1 o2 hij hg1 hg2 ho1 ho2 _ _ b hb1 hb2
      match i, j, hg1, hg2 with
      | 0, 0, _, _ => exact absurd rfl hij
      | 1, 1, _, _ => exact absurd rfl hij
      | 0, 1, hg1, hg2 =>
        simp at hg1 hg2; subst hg1; subst hg2
        exact ((m2 b).1 hb2).2 ((m1 b).1 hb1).2
      | 1, 0, hg1, hg2 =>
        simp at hg1 hg2; subst hg1; subst hg2
        exact ((m2 b).1 hb1).2 ((m1 b).1 hb2).2
      | i + 2, _, hg1, _ => simp at hg1
      | _, j + 2, _, hg2 => simp at hg2
    · intro i x y hx hy _ b hb
      refine ⟨Nat.zero_le _, ?_⟩
      match i, hx with
      | 0, hx => simp at hx; subst hx; exact ((m1 b).1 hb).1
      | 1, hx => simp at hx; subst hx; exact ((m2 b).1 hb).1
      | i + 2, hx => simp at hx
  refine wp_mono (h K (snapOb fun b => w.heap[b]?) 0 w w _ _ hrel (Below.refl _ _)) ?_
  intro e a w' hq
  cases e with
  | normal => obtain ⟨_, _, _, _, _, _, hx⟩ := hq; exact hx.elim
  | exit j => obtain ⟨_, _, _, _, _, _, hx⟩ := hq; exact hx.elim
  | ret =>
    obtain ⟨env, os1, gs1, hr, hd, hbel, r, hres, ⟨tl, rfl⟩, hfl, hQ⟩ := hq
    obtain ⟨v, hu, hv⟩ := hres _ _ _ _ hr
    obtain ⟨g0, g1, gs', rfl⟩ : ∃ g0 g1 gs', gs1 = g0 :: g1 :: gs' := by
      have := hr.hl
      match gs1 with
      | [] => simp at this
      | [a] => simp at this
      | a :: b :: c => exact ⟨a, b, c, rfl⟩
    obtain ⟨r1, r2, r3⟩ := hr.ho 0 _ _ rfl rfl
    have e0 : g0 = gk := Option.some.inj (r3 0 gk rfl)
    have e1 : g1 = gq := Option.some.inj (r3 1 gq rfl)
    subst e0
    subst e1
    have s1 := (hr.ho 1 _ _ rfl rfl).1
    refine ⟨hd, v, hu, v, r, rfl, hQ, hfl, RV.hfm hfl (fun b hok hlt => ⟨fun hb2 => ?_, rfl⟩) hv, ⟨hbel.os, hbel.tape, hbel.output, hbel.size, fun b hb2 => ?_⟩⟩
    · exact Classical.byContradiction fun hn => hok 1 _ _ rfl rfl trivial ((m2 b).2 ⟨hb2, hn⟩)
    · by_cases hk : okr b
      · exact r1 b ((m1 b).2 ⟨hb2, hk⟩)
      · exact s1 b ((m2 b).2 ⟨hb2, hk⟩)
  | goto l => exact (hq : False).elim
  | panic ch => exact (hq : False).elim
  | outgrown => exact (hq : False).elim
theorem AFnK.start {P : Program} {f : FuncId} {fn : Func} {nt : Nat} {args : List AV} {Q : AV → Prop} (hf : P.funcs[f]? = some fn) (hnt : fn.ntmps = nt) {c : Code} (hb : fn.body = some c) (hnm : (fn.name == "runtime.NumGoroutine") = false) (ha : ∀ a ∈ args, a.hf1)
    (h : ∀ K q, AWp P c (fun _ _ => False) (fun _ _ _ => False) (fun env os => ∃ r, ResIs P fn env os r ∧ (∃ tl, os = .keep 2 K :: .ob q :: tl) ∧ r.hf ∧ Q r) (Env.start args (nt - args.length)) [.keep 2 K, .ob q]) :
    AFnK P f args Q := AFnK.of hf hb hnm (by rw [hnt]) ha h
section
variable {P : Program} {env : Env} {os : List AO} {d : Option Tmp} {ty : TypeId} {pos : String} {af : Array Edge} {g : Option (Nat × Bool)}
theorem c_callK {f : FuncId} {args : List AV} {Q : AV → Prop} (hc : AFnK P f args Q) {xs : List Operand} {ats : Array TypeId} (hi : xs.map (AV.ev env) = args) :
    COp P ⟨d, .call { callee := .value (.func f), args := xs.toArray, argTypes := ats }, ty, pos, af, g⟩ env os (fun r e o => Q r ∧ e = env ∧ o = os) := by
  intro base w gs tm hr
  refine ⟨f, _, run_call hc.1 xs ats _ rfl w, (hc.2.2 w _ (okOf gs os) (by rw [← hi]; simp) fun i => ?_).mono ?_⟩
  · refine RV.hfm1 (gs := gs) (getD_mem_any hc.2.1 trivial i) (Keeps.refl _ _) ?_
    rw [← hi]
    have e1 : (xs.map (AV.ev env)).getD i .any = match xs[i]? with | some x => AV.ev env x | none => .any := by
      simp only [List.getD_eq_getElem?_getD, List.getElem?_map]; cases xs[i]? <;> rfl
    have e2 : (xs.map (Act.eval ⟨tm, []⟩)).toArray.getD i undef = match xs[i]? with | some x => Act.eval ⟨tm, []⟩ x | none => undef := by
      simp only [Array.getD_eq_getD_getElem?, List.getElem?_toArray, List.getElem?_map]; cases xs[i]? <;> rfl
    rw [e1, e2]
    cases hx : xs[i]? with
    | some x => exact hr.ev x
    | none => exact .any _
  · rintro e w' ⟨v, r, rfl, hQ, hf, hv, hb⟩
    refine ⟨v, r, env, os, gs, rfl, ⟨hQ, rfl, rfl⟩, hr.below hb, RV.hfm hf (fun b hok hlt => ⟨fun i x y hx hy hny hm => ?_, rfl⟩) hv, hb.mono hr.hb⟩
    have := (hr.hn i x y hx hy hny.ne b hm).2
    exact hok this i x y hx hy hny hm
end
section
variable {P : Program} {env : Env} {os : List AO} {d : Tmp} {ty : TypeId} {pos : String} {af : Array Edge} {l rest : List Oper} {K : APost}
theorem w_callK {f : FuncId} {args : List AV} {Q : AV → Prop} {xs : List Operand} {ats : Array TypeId} (hc : AFnK P f args Q) (hi : xs.map (AV.ev env) = args)
    (h' : ∀ r, Q r → AOps P .seq l rest K (env.up d r) os) :
    AOps P .seq l (⟨some d, .call { callee := .value (.func f), args := xs.toArray, argTypes := ats }, ty, pos, af, none⟩ :: rest) K env os :=
  AOps.ca (c_callK hc hi) fun r e o ⟨hq, h1, h2⟩ => by subst h1; subst h2; exact h' r hq
end
end Go.Proofs.Ytlkhcelodcneiaa
/-
  Functions that are handed a pointer to one object and things that are only read beside it; closures with such a pointer and a row. No condition.
-/
namespace Go.Proofs.Ytlkhcelodcneiaa
open Go Go.RowKit
set_option linter.unusedVariables false

def pinOb (q : Ob) (B : Nat) (V : Value) : Ob where
  p base w g := q.p base w g ∧ g.b = B ∧ g.v = V
  up hb h := ⟨q.up hb h.1, h.2⟩
  lower hl h := ⟨q.lower hl h.1, h.2⟩
  one h := q.one h.1

/-- The object's place and its pointer are known. -/
def Pinned (q : Ob) (B : Nat) (V : Value) : Prop := ∀ base w g, q.p base w g → g.b = B ∧ g.v = V
theorem pinned1 {q : Ob} {B : Nat} {V : Value} : Pinned (pinOb q B V) B V := fun _ _ _ h => h.2
/-- The function turns the object q that it is handed into q', and hands back v. -/
def AFnO (P : Program) (f : FuncId) (args : List AV) (q q' : Ob) (v : Value) : Prop :=
  HasBody P f ∧ ∀ base w g vs, base ≤ w.heap.size → q.p base w g → (∀ b, b ∈ g.bl → base ≤ b ∧ b < w.heap.size) → vs.size = args.length → (∀ i : Nat, RV w (okOf [g] [.ob q]) [g] (vs.getD i undef) (args.getD i .any)) →
    Calls P f vs w fun e w' => ∃ g' : Gh, e = .returned v ∧ g'.v = g.v ∧ g'.b = g.b ∧ q'.p base w' g' ∧ (∀ b, b ∈ g'.bl → (b ∈ g.bl ∨ w.heap.size ≤ b) ∧ b < w'.heap.size) ∧ Below base w w' ∧ ∀ b, b < w.heap.size → b ∉ g.bl → w'.heap[b]? = w.heap[b]?
theorem okOf_ob {g : Gh} {q q2 : Ob} : okOf [g] [.ob q] = okOf [g] [.ob q2] := by
  have key : ∀ {q q2 : Ob} {b : Nat}, okOf [g] [.ob q] b → okOf [g] [.ob q2] b := by
    intro q q2 b h i x y hx hy _
    match i with
    | 0 => exact h 0 x (.ob q) hx rfl trivial
    | i + 1 => simp at hx
  funext b
  exact propext ⟨key, key⟩
theorem AFnO.pin {P : Program} {f : FuncId} {args : List AV} {q q' : Ob} {v : Value} (h : AFnO P f args q q' v) (B : Nat) (V : Value) : AFnO P f args (pinOb q B V) (pinOb q' B V) v := by
  refine ⟨h.1, fun base w g vs hb hq hn hs hv => ?_⟩
  refine (h.2 base w g vs hb hq.1 hn hs fun i => ?_).mono ?_
  · rw [okOf_ob (q2 := pinOb q B V)]; exact hv i
  · rintro e w' ⟨g', h1, h2, h3, h4, h5⟩
    exact ⟨g', h1, h2, h3, ⟨h4, by rw [h3]; exact hq.2.1, by rw [h2]; exact hq.2.2⟩, h5⟩
theorem AFnO.drop {P : Program} {f : FuncId} {args : List AV} {q q' : Ob} {v : Value} {B : Nat} {V : Value} (h : AFnO P f args q (pinOb q' B V) v) : AFnO P f args q q' v := by
  refine ⟨h.1, fun base w g vs hb hq hn hs hv => (h.2 base w g vs hb hq hn hs hv).mono ?_⟩
  rintro e w' ⟨g', h1, h2, h3, h4, h5⟩
  exact ⟨g', h1, h2, h3, h4.1, h5⟩
theorem AFnO.of {P : Program} {f : FuncId} {fn : Func} {c : Code} {args args' : List AV} {q q' : Ob} {v : Value} {n : Nat} (hf : P.funcs[f]? = some fn) (hb : fn.body = some c) (hnm : (fn.name == "runtime.NumGoroutine") = false) (hn : fn.ntmps - args.length = n) (ha : args' = args.map (AV.sh 1))
    (h : ∀ K B V, AWp P c (fun env (os : List AO) => ∃ k : Nat, ResIs P fn env os (.val v) ∧ os[k]? = some (.ob (pinOb q' B V)) ∧ os[0]? = some (.keep 1 K)) (fun _ _ _ => False) (fun env (os : List AO) => ∃ k : Nat, ResIs P fn env os (.val v) ∧ os[k]? = some (.ob (pinOb q' B V)) ∧ os[0]? = some (.keep 1 K)) (Env.start args' n) [.keep 1 K, .ob (pinOb q B V)]) :
    AFnO P f args q q' v := by
  refine ⟨⟨fn, c, hf, hnm, hb⟩, fun base w g vs hbase hq hn0 hsz hvs => calls_of_wp hf hb ?_⟩
  rw [show fn.ntmps - vs.size = n by rw [hsz]; exact hn]
  have h := fun K => h K g.b g.v
  let bl : List Nat := (List.range w.heap.size).filter fun b => decide (base ≤ b) && !g.bl.contains b
  let gk : Gh := ⟨undef, 0, bl, []⟩
  let K : Kp := ⟨fun b => w.heap[b]?, [gk]⟩
  let oo : AO := .ob (pinOb q g.b g.v)
  have hbl : ∀ b, b ∈ bl ↔ b < w.heap.size ∧ base ≤ b ∧ b ∉ g.bl := by
    intro b
    simp only [bl, List.mem_filter, List.mem_range, Bool.and_eq_true, decide_eq_true_eq, Bool.not_eq_true', List.contains_eq_mem, decide_eq_false_iff_not]
  have gg : ∀ {i : Nat} {x : Gh}, [gk, g][i]? = some x → (i = 0 ∧ x = gk) ∨ (i = 1 ∧ x = g) := by
    intro i x hx
    match i with
    | 0 => simp at hx; exact .inl ⟨rfl, hx.symm⟩
    | 1 => simp at hx; exact .inr ⟨rfl, hx.symm⟩
    | i + 2 => simp at hx
  have go : ∀ {i : Nat} {x : AO}, [AO.keep 1 K, oo][i]? = some x → (i = 0 ∧ x = .keep 1 K) ∨ (i = 1 ∧ x = oo) := by
    intro i x hx
    match i with
    | 0 => simp at hx; exact .inl ⟨rfl, hx.symm⟩
    | 1 => simp at hx; exact .inr ⟨rfl, hx.symm⟩
    | i + 2 => simp at hx
  have hkeep : Keeps (okOf [g] [.ob q]) (okOf [gk, g] [.keep 1 K, oo]) w w := by
    intro b hbk _
    refine ⟨fun i x y hx hy hny hm => ?_, rfl⟩
    rcases gg hx with ⟨rfl, rfl⟩ | ⟨rfl, rfl⟩
    · rcases go hy with ⟨_, rfl⟩ | ⟨h0, _⟩
      · exact hny.elim
      · omega
    · rcases go hy with ⟨h0, _⟩ | ⟨_, rfl⟩
      · omega
      · exact hbk 0 _ _ rfl rfl trivial hm
  have hrel : Rel base w [gk, g] (Env.start args' n) [.keep 1 K, oo] (vs ++ Array.replicate n undef) := by
    refine ⟨hbase, rfl, by simp [Env.start, hsz, ha], fun i => start_rv args' n vs (fun i => ?_) i, ?_, ?_, ?_⟩
    · rw [ha, getD_map_any _ rfl]
      have := (hvs i).sh (gs0 := [gk]) hkeep
      exact this
    · intro i x y hx hy
      rcases gg hx with ⟨rfl, rfl⟩ | ⟨rfl, rfl⟩
      · rcases go hy with ⟨_, rfl⟩ | ⟨h0, _⟩
        · exact ⟨fun b _ => rfl, rfl, fun i x h => by
            match i with
            | 0 => exact h
            | i + 1 => simp [K] at h⟩
        · omega
      · rcases go hy with ⟨h0, _⟩ | ⟨_, rfl⟩
        · omega
        · exact ⟨hq, rfl, rfl⟩
    · intro i j g1 g2 o1 o2 hij hg1 hg2 ho1 ho2 _ _ b hb1 hb2
      rcases gg hg1 with ⟨rfl, rfl⟩ | ⟨rfl, rfl⟩
      · rcases gg hg2 with ⟨rfl, rfl⟩ | ⟨rfl, rfl⟩
        · exact hij rfl
        · exact ((hbl b).1 hb1).2.2 hb2
      · rcases gg hg2 with ⟨rfl, rfl⟩ | ⟨rfl, rfl⟩
        · exact ((hbl b).1 hb2).2.2 hb1
        · exact hij rfl
    · intro i x y hx hy _ b hb
      rcases gg hx with ⟨rfl, rfl⟩ | ⟨rfl, rfl⟩
      · exact ⟨((hbl b).1 hb).2.1, ((hbl b).1 hb).1⟩
      · exact hn0 b hb
  have fin : ∀ {env : Env} {os1 : List AO} {gs2 : List Gh} {a : Act} {w' : World}, Rel base w' gs2 env os1 a.tmps → Below base w w' → (∃ k : Nat, ResIs P fn env os1 (.val v) ∧ os1[k]? = some (AO.ob (pinOb q' g.b g.v)) ∧ os1[0]? = some (.keep 1 K)) →
      ∃ u, (results fn a.tmps).run P w' = .ok u w' ∧ ∃ g' : Gh, Exit.ret = Exit.ret ∧ u = v ∧ g'.v = g.v ∧ g'.b = g.b ∧ q'.p base w' g' ∧ (∀ b, b ∈ g'.bl → (b ∈ g.bl ∨ w.heap.size ≤ b) ∧ b < w'.heap.size) ∧ Below base w w' ∧ ∀ b, b < w.heap.size → b ∉ g.bl → w'.heap[b]? = w.heap[b]? := by
    intro env os1 gs2 a w' hr hbel ⟨k, hres, hok, hkp⟩
    obtain ⟨u, hu, hv⟩ := hres _ _ _ _ hr
    cases hv
    have hltk : k < gs2.length := by rw [hr.hl]; exact (List.getElem?_eq_some_iff.1 hok).1
    obtain ⟨g', hg'⟩ : ∃ g', gs2[k]? = some g' := ⟨_, List.getElem?_eq_getElem hltk⟩
    have hlt0 : 0 < gs2.length := by rw [hr.hl]; exact (List.getElem?_eq_some_iff.1 hkp).1
    obtain ⟨g0, hg0⟩ : ∃ g0, gs2[0]? = some g0 := ⟨_, List.getElem?_eq_getElem hlt0⟩
    obtain ⟨r1, r2, r3⟩ := hr.ho _ _ _ hg0 hkp
    have egk : g0 = gk := by
      have := r3 0 gk rfl
      rw [hg0] at this
      exact Option.some.inj this
    subst egk
    have hk0 : k ≠ 0 := fun e => by subst e; rw [hkp] at hok; cases hok
    obtain ⟨hro1, hro2, hro3⟩ := hr.ho _ _ _ hg' hok
    refine ⟨v, hu, g', rfl, rfl, hro3, hro2, hro1, fun b hb => ?_, hbel, fun b hb hnot => ?_⟩
    · have hbn := hr.hn _ _ _ hg' hok (by simp) b hb
      refine ⟨?_, hbn.2⟩
      by_cases hbw : b < w.heap.size
      · left
        apply Classical.byContradiction
        intro hnb
        exact hr.hd k 0 g' _ _ _ hk0 hg' hg0 hok hkp (by simp) (by simp) b hb ((hbl b).2 ⟨hbw, hbn.1, hnb⟩)
      · right; omega
    · rcases Nat.lt_or_ge b base with h6 | h6
      · exact hbel.block b h6
      · exact r1 b ((hbl b).2 ⟨hb, h6, hnot⟩)
  refine wp_mono (h K base w w _ _ hrel (Below.refl _ _)) ?_
  intro e a w' hq
  cases e with
  | normal =>
    obtain ⟨env, os1, gs1, hr, hd, hbel, hx⟩ := hq
    obtain ⟨u, hu, g', _, rfl, r⟩ := fin hr hbel hx
    exact ⟨hd, _, hu, g', rfl, r⟩
  | exit j => obtain ⟨_, _, _, _, _, _, hx⟩ := hq; exact hx.elim
  | ret =>
    obtain ⟨env, os1, gs1, hr, hd, hbel, hx⟩ := hq
    obtain ⟨u, hu, g', _, rfl, r⟩ := fin hr hbel hx
    exact ⟨hd, _, hu, g', rfl, r⟩
  | goto l => exact (hq : False).elim
  | panic ch => exact (hq : False).elim
  | outgrown => exact (hq : False).elim
theorem AFnO.start {P : Program} {f : FuncId} {fn : Func} {nt : Nat} {args : List AV} {q q' : Ob} {v : Value} (hf : P.funcs[f]? = some fn) (hnt : fn.ntmps = nt) {c : Code} (hb : fn.body = some c) (hnm : (fn.name == "runtime.NumGoroutine") = false)
    (h : ∀ K B V, AWp P c (fun env (os : List AO) => ∃ k : Nat, ResIs P fn env os (.val v) ∧ os[k]? = some (.ob (pinOb q' B V)) ∧ os[0]? = some (.keep 1 K)) (fun _ _ _ => False) (fun env (os : List AO) => ∃ k : Nat, ResIs P fn env os (.val v) ∧ os[k]? = some (.ob (pinOb q' B V)) ∧ os[0]? = some (.keep 1 K)) (Env.start (args.map (AV.sh 1)) (nt - args.length)) [.keep 1 K, .ob (pinOb q B V)]) :
    AFnO P f args q q' v := AFnO.of hf hb hnm (by rw [hnt]) rfl h

/-! ### Calls -/
def ImmO (os : List AO) (h : Nat) (a a' : AV) : Prop := (∃ i, a = .optr h i ∧ a' = .optr 0 i) ∨ ImmU os [h] a a'
def ImmOs (os : List AO) (h : Nat) : List AV → List AV → Prop
  | [], [] => True
  | a :: as0, b :: bs => ImmO os h a b ∧ ImmOs os h as0 bs
  | _, _ => False
theorem ImmOs.get {os : List AO} {h : Nat} : ∀ {l l' : List AV}, ImmOs os h l l' → l.length = l'.length ∧ ∀ i : Nat, ImmO os h (l.getD i .any) (l'.getD i .any)
  | [], [], _ => ⟨rfl, fun _ => .inr (.any _)⟩
  | a :: l, b :: l', hh => by
    obtain ⟨h1, h2⟩ := hh
    have ih := ImmOs.get h2
    refine ⟨by simp [ih.1], fun i => ?_⟩
    match i with
    | 0 => exact h1
    | i + 1 => exact ih.2 i
  | [], _ :: _, hh => hh.elim
  | _ :: _, [], hh => hh.elim

section
variable {P : Program} {env : Env} {os : List AO} {d : Option Tmp} {ty : TypeId} {pos : String} {af : Array Edge} {g : Option (Nat × Bool)}
/-- What a call of such a function leaves. -/
theorem AFnO.leaves {f : FuncId} {args : List AV} {q q' : Ob} {v : Value} (e2 : TypeId) (hc : AFnO P f args q q' v) {h : Nat} (hs : os[h]? = some (.ob q)) {base : Nat} {w : World} {gs : List Gh} {tm : Array Value} (hr : Rel base w gs env os tm) {gh : Gh} (hgh : gs[h]? = some gh) {vs : Array Value} (hsz : vs.size = args.length) (hvs : ∀ i : Nat, RV w (okOf [gh] [.ob q]) [gh] (vs.getD i undef) (args.getD i .any)) :
    Calls P f vs w fun e w' => ∃ v' r env' os' gs', e = .returned v' ∧ (r = .val v ∧ env' = env.mp (AV.noRow h) ∧ os' = (((os ++ [AO.sli e2 []]).map (AO.via (AV.noRow h) h)).set h (.ob q')).set os.length .dead) ∧ Rel base w' gs' env' os' tm ∧ RV w' (okOf gs' os') gs' v' r ∧ Below base w w' := by
  have hlt : h < os.length := (List.getElem?_eq_some_iff.1 hs).1
  have hgl : h < gs.length := by rw [hr.hl]; exact hlt
  have hq : q.p base w gh := hr.ho _ _ _ hgh hs
  refine (hc.2 base w gh vs hr.hb hq (hr.hn _ _ _ hgh hs (by simp)) hsz hvs).mono ?_
  rintro e w' ⟨g', rfl, hgv, hgb, hro, hbl, hbel, hfr⟩
  let gd : Gh := ⟨.slice none 0 0, 0, [], []⟩
  have hr1 : Rel base w (gs ++ [gd]) env (os ++ [.sli e2 []]) tm := hr.new (Below.refl _ _) (.sli e2 []) gd (fun _ b hb => by simp [gd] at hb) ⟨World.ownsRow_nil w base e2 1, fun x hx => by simp at hx, .inl ⟨rfl, rfl⟩⟩
  have hg1 : (gs ++ [gd])[h]? = some gh := by rw [List.getElem?_append_left hgl]; exact hgh
  have hs1 : (os ++ [AO.sli e2 []])[h]? = some (.ob q) := by rw [List.getElem?_append_left hlt]; exact hs
  have hgd : (gs ++ [gd])[os.length]? = some gd := by rw [← hr.hl]; simp
  have hod : (os ++ [AO.sli e2 []])[os.length]? = some (.sli e2 []) := by simp
  have sv : SameV h (gs ++ [gd]) ((gs ++ [gd]).set h g') := by
    refine ⟨fun j z hj hz => ?_, fun z hz => ⟨g', by rw [List.getElem?_set_self (by rw [List.length_append]; omega)], ?_⟩⟩
    · rw [List.getElem?_set, if_neg (fun e => hj e.symm)]; exact hz
    · rw [hg1] at hz; cases hz; exact ⟨hgv, hgb⟩
  refine ⟨v, .val v, _, _, (gs ++ [gd]).set h g', rfl, ⟨rfl, rfl, rfl⟩, hr1.absorb hg1 hs1 trivial hgd hod trivial (by omega) g' _ (AV.noRow h) rfl hfr hbel.size ?_ (fun kp hv => hv.noRow kp sv) (fun _ => hro), .val _, hbel⟩
  intro b hb
  have := hbl b hb
  refine ⟨?_, this.2⟩
  rcases this.1 with h1 | h1
  · exact .inl h1
  · exact .inr (.inr h1)
theorem ImmO.rv {q : Ob} {h : Nat} (hs : os[h]? = some (.ob q)) {base : Nat} {w : World} {gs : List Gh} {tm : Array Value} (hr : Rel base w gs env os tm) {gh : Gh} (hgh : gs[h]? = some gh) {a a' : AV} (hi : ImmO os h a a') {v : Value} (hv : RV w (okOf gs os) gs v a) : RV w (okOf [gh] [.ob q]) [gh] v a' := by
  have hh : Handed os [h] [.ob q] := handed1 hs True.intro
  have esel : selG gs [h] = [gh] := by simp [selG, hgh]
  rcases hi with ⟨i, rfl, rfl⟩ | hi
  · cases hv with
    | optr hg => rw [hgh] at hg; cases hg; exact .optr rfl
  · have := hi.rv hr hh hv
    rw [esel] at this
    exact this
/-! ### A closure that holds a pointer to the object and the place of a row -/
theorem run_callk {f : FuncId} (hb : HasBody P f) (x : Operand) (xs : List Operand) (ats : Array TypeId) (ρ : Operand → Value) (caps : Array Value) (hρ : ρ x = .func (.func f) #[] caps) (w : World) :
    (execOp ρ ⟨d, .call { callee := .value x, args := xs.toArray, argTypes := ats }, ty, pos, af, g⟩).run P w = .ok (.enter f ((xs.map ρ).toArray ++ caps)) w := by
  have := hb.run ((xs.map ρ).toArray ++ caps) w
  simp only [execOp, resolve, hρ, Deferred.ofValue, Sem.run_bind, Sem.run_pure, Result.andThen_ok, invoke, List.map_toArray]
  simpa using this
end
section
variable {P : Program} {env : Env} {os : List AO} {l rest : List Oper} {K : APost}
/-- A box with a row that is only read, from now on. -/
theorem AOps.freeze (k b : Nat) {T : TypeId} {rx : List Int} (hk : env.fd k = some (.optr b 0)) (hs : os[b]? = some (.bx T [.ints rx])) (h : AOps P .seq l rest K (env.up k (.iiptr [rx] 0)) (os.set b .dead)) : AOps P .seq l rest K env os := by
  intro base w0 w gs tm hr hb X Rt
  refine h base w0 w gs tm ?_ hb X Rt
  have hgl : b < gs.length := by rw [hr.hl]; exact (List.getElem?_eq_some_iff.1 hs).1
  obtain ⟨gb, hg⟩ : ∃ x, gs[b]? = some x := ⟨_, List.getElem?_eq_getElem hgl⟩
  obtain ⟨cs, c1, c2, c3, c4, c5, c6, c7⟩ := hr.ho _ _ _ hg hs
  match cs, c5 with
  | [c0], _ =>
  have h0 := c7 0
  simp only [List.getD_cons_zero] at h0
  have hint : IntsAt w (okOf gs os) c0 rx := by
    cases h0 with
    | ints hh => exact hh
  have oget : ∀ {i : Nat} {y : AO}, (os.set b .dead)[i]? = some y → y ≠ .dead → i ≠ b ∧ os[i]? = some y := by
    intro i y hy hny
    rw [List.getElem?_set] at hy
    split at hy
    · split at hy
      · cases hy; exact absurd rfl hny
      · cases hy
    · rename_i hne; exact ⟨fun e => hne e.symm, hy⟩
  have kp : Keeps (okOf gs os) (okOf gs (os.set b .dead)) w w := by
    intro c hc _
    refine ⟨fun i x y hx hy hl hm => ?_, rfl⟩
    exact hc i x y hx (oget hy hl.ne).2 hl hm
  have hok : okOf gs (os.set b .dead) gb.b := by
    intro i x y hx hy hl hm
    obtain ⟨h1, h2⟩ := oget hy hl.ne
    exact hr.hd i b x gb y _ h1 hx hg h2 hs hl.ne (by simp) gb.b hm (by rw [c3]; simp)
  have hptr : RV w (okOf gs (os.set b .dead)) gs (.pointer (some ⟨gb.b, 0, none⟩)) (.iiptr [rx] 0) := by
    have hrow : IntssAt w (okOf gs (os.set b .dead)) (.slice (some ⟨gb.b, 0, none⟩) 1 1) [rx] := by
      refine ⟨[c0], ⟨some ⟨gb.b, 0, none⟩, 1, rfl, by simp, by decide, fun _ => ⟨gb.b, 0, rfl, hok, fun i u hu => ?_⟩⟩, rfl, fun i u hu => ?_⟩
      · match i with
        | 0 =>
          simp at hu
          subst hu
          simp [World.cell?, c1]
        | i + 1 => simp at hu
      · match i with
        | 0 => simp at hu; subst hu; exact hint.mono kp
        | i + 1 => simp at hu
    have := RV.iiptr (w := w) (ok := okOf gs (os.set b .dead)) (gs := gs) (i := 0) hrow (by omega) (by simp)
    simpa [eptr, Addr.add] using this
  have hbk : RV w (okOf gs os) gs (tm.getD k undef) (.optr b 0) := by
    have := hr.he k
    rw [Env.lk_of hk] at this
    exact this
  have hval : tm.getD k undef = .pointer (some ⟨gb.b, 0, none⟩) := by
    generalize tm.getD k undef = u at hbk
    cases hbk with
    | optr hg2 => rw [hg] at hg2; cases hg2; rfl
  refine ⟨hr.hb, by rw [List.length_set]; exact hr.hl, hr.hs, fun i => ?_, ?_, ?_, ?_⟩
  · rw [Env.lk_up]
    split
    · rename_i h1; rw [h1.1, hval]; exact hptr
    · exact (hr.he i).mono kp fun _ _ e => e
  · intro i x y hx hy
    by_cases hd : y = .dead
    · subst hd; trivial
    obtain ⟨h1, h2⟩ := oget hy hd
    exact (hr.ho i x y hx h2).mono kp (fun _ _ e => e) fun _ _ _ => rfl
  · intro i j x y o1 o2 hij hx hy ho1 ho2 hn1 hn2
    exact hr.hd i j x y o1 o2 hij hx hy (oget ho1 hn1).2 (oget ho2 hn2).2 hn1 hn2
  · intro i x y hx hy hny
    exact hr.hn i x y hx (oget hy hny).2 hny
/-- The object's place has a name, from now on. -/
theorem AOps.pin (h : Nat) {q : Ob} (hs : os[h]? = some (.ob q)) (hqv : ∀ base w g, q.p base w g → g.v = .pointer (some ⟨g.b, 0, none⟩)) (h' : ∀ B V, V = .pointer (some ⟨B, 0, none⟩) → AOps P .seq l rest K env (os.set h (.ob (pinOb q B V)))) : AOps P .seq l rest K env os := by
  intro base w0 w gs tm hr hb X Rt
  have hgl : h < gs.length := by rw [hr.hl]; exact (List.getElem?_eq_some_iff.1 hs).1
  obtain ⟨gh, hg⟩ : ∃ x, gs[h]? = some x := ⟨_, List.getElem?_eq_getElem hgl⟩
  refine h' gh.b gh.v (hqv _ _ _ (hr.ho _ _ _ hg hs)) base w0 w gs tm ?_ hb X Rt
  exact hr.upd hg hs trivial _ trivial (fun _ _ _ => rfl) (Nat.le_refl _) fun _ => ⟨hr.ho _ _ _ hg hs, rfl, rfl⟩
end
section
variable {P : Program} {env : Env} {os : List AO} {d : Tmp} {ty : TypeId} {pos : String} {af : Array Edge} {l rest : List Oper} {K : APost}
theorem imo_nil {os : List AO} {h : Nat} : ImmOs os h [] [] := True.intro
theorem imo_cons {os : List AO} {h : Nat} {a a1 b : AV} {as0 bs : List AV} (ha : a = a1) (h1 : ImmU os [h] a1 b) (h2 : ImmOs os h as0 bs) : ImmOs os h (a :: as0) (b :: bs) := ⟨.inr (ha ▸ h1), h2⟩
end
end Go.Proofs.Ytlkhcelodcneiaa
/-
  Boxes that nothing writes to any more; closures that capture two of them. No condition.
-/
namespace Go.Proofs.Ytlkhcelodcneiaa
open Go Go.RowKit
set_option linter.unusedVariables false
set_option linter.unusedSimpArgs false

/-- A pointer into a box that nothing writes to any more. -/
def bxP (avs : List AV) (i : Nat) : Ro where
  p w ok v := (∀ a ∈ avs, a.hf0) ∧ ∃ (B : Nat) (T : TypeId) (cs : List Value), v = .pointer (some ⟨B, i, none⟩) ∧ ok B ∧ w.heap[B]? = some (.cells cs.toArray T (0, 0)) ∧ cs.length = avs.length ∧ ∀ j : Nat, RV w ok [] (cs.getD j undef) (avs.getD j .any)
  up k h := by
    obtain ⟨hf, B, T, cs, e, h1, h2, h3, h4⟩ := h
    have hlt : B < _ := (Array.getElem?_eq_some_iff.1 h2).1
    have hk := k B h1 hlt
    exact ⟨hf, B, T, cs, e, hk.1, by rw [hk.2]; exact h2, h3, fun j => RV.hfm0 (getD_mem_any hf trivial j) k (h4 j)⟩
/-- A closure that captures two such boxes. -/
def clR2 (f0 : FuncId) (A1 A2 : List AV) : Ro where
  p w ok v := ∃ c1 c2, v = .func (.func f0) #[] #[c1, c2] ∧ (bxP A1 0).p w ok c1 ∧ (bxP A2 0).p w ok c2
  up k h := by
    obtain ⟨c1, c2, e, h1, h2⟩ := h
    exact ⟨c1, c2, e, (bxP A1 0).up k h1, (bxP A2 0).up k h2⟩
section
variable {P : Program} {env : Env} {os : List AO} {d : Option Tmp} {ty : TypeId} {pos : String} {af : Array Edge} {g : Option (Nat × Bool)} {wl : Bool}
theorem q_ldfz {t : TypeId} [ht : TCell P t] {x : Operand} {avs : List AV} {i : Nat} {a : AV} (hx : AV.ev env x = .ro (bxP avs i)) (ha : avs[i]? = some a) : QOp P false ⟨d, .load t x, ty, pos, af, g⟩ env os a :=
  .of_runb fun _ w gs tm hr => by
    have h := hr.ev x
    rw [hx] at h
    generalize hv : Act.eval ⟨tm, []⟩ x = v at h
    cases h with
    | ro h =>
      obtain ⟨hf, B, T, cs, rfl, h1, h2, h3, h4⟩ := h
      have hi : i < cs.length := by rw [h3]; exact (List.getElem?_eq_some_iff.1 ha).1
      have hcell : w.cell? ⟨B, i, none⟩ = some cs[i] := by simp [World.cell?, h2, hi]
      have h5 := h4 i
      rw [List.getD_eq_getElem?_getD, List.getElem?_eq_getElem hi, List.getD_eq_getElem?_getD, ha] at h5
      simp only [Option.getD_some] at h5
      refine ⟨cs[i], RV.hfm0 (hf a (List.mem_of_getElem? ha)) (Keeps.refl _ _) h5, fun w' hw' => ?_⟩
      have hcell' := below_cell hw' hcell
      simp only [execOp, hv, Sem.run_bind, run_load_cell hcell', Result.andThen_ok, Sem.run_pure]
theorem q_makef2 {f : FuncId} {x y : Operand} {A1 A2 : List AV} (hx : AV.ev env x = .ro (bxP A1 0)) (hy : AV.ev env y = .ro (bxP A2 0)) :
    QOp P wl ⟨d, .makeFunc (.func f) #[] #[x, y], ty, pos, af, g⟩ env os (.ro (clR2 f A1 A2)) :=
  .of_run fun base w gs tm hr => by
    have h1 := hr.ev x
    have h2 := hr.ev y
    rw [hx] at h1
    rw [hy] at h2
    generalize hv1 : Act.eval ⟨tm, []⟩ x = v1 at h1
    generalize hv2 : Act.eval ⟨tm, []⟩ y = v2 at h2
    cases h1 with
    | ro h1 =>
    cases h2 with
    | ro h2 =>
    refine ⟨.func (.func f) #[] #[v1, v2], .ro ⟨v1, v2, rfl, h1, h2⟩, fun w' _ => ?_⟩
    simp [execOp, Instr.makeFunc, hv1, hv2]
theorem q_callk2 {f : FuncId} {args : List AV} {A1 A2 : List AV} {v : Value} (hc : AFnV P f (args ++ [.ro (bxP A1 0), .ro (bxP A2 0)]) v) {x : Operand} (hx : AV.ev env x = .ro (clR2 f A1 A2)) {xs : List Operand} {ats : Array TypeId} (hi : Imms os (xs.map (AV.ev env)) args) :
    QOp P false ⟨d, .call { callee := .value x, args := xs.toArray, argTypes := ats }, ty, pos, af, g⟩ env os (.val v) := by
  intro base w gs tm hr
  refine ⟨v, .val v, fun e => (by cases e), fun w' hw' => ?_⟩
  have hr' := hr.below (hw' rfl)
  have h := hr'.ev x
  rw [hx] at h
  generalize hv : Act.eval ⟨tm, []⟩ x = u at h
  cases h with
  | ro h =>
    obtain ⟨c1, c2, rfl, h1, h2⟩ := h
    unfold Oper.quietAt
    rw [run_callk hc.1 x xs ats _ #[c1, c2] hv]
    have hrv := hi.rvs hr'
    refine ⟨rfl, (hc.2 w' _ ⟨by simp [hrv.1] at *; simpa using hrv.1, fun i => ?_⟩).mono ?_⟩
    · have kt : Keeps (okOf gs os) (fun _ => True) w' w' := fun b _ _ => ⟨trivial, rfl⟩
      have hl : (xs.map (Act.eval ⟨tm, []⟩)).length = args.length := by have := hrv.1; simpa using this
      by_cases c : i < args.length
      · have e1 : ((xs.map (Act.eval ⟨tm, []⟩)).toArray ++ #[c1, c2]).getD i undef = (xs.map (Act.eval ⟨tm, []⟩)).toArray.getD i undef := by
          simp only [Array.getD_eq_getD_getElem?]
          rw [Array.getElem?_append_left (by simpa using (by omega : i < (xs.map (Act.eval ⟨tm, []⟩)).length))]
        have e2 : (args ++ [AV.ro (bxP A1 0), .ro (bxP A2 0)]).getD i .any = args.getD i .any := by
          simp only [List.getD_eq_getElem?_getD]
          rw [List.getElem?_append_left c]
        rw [e1, e2]
        exact hrv.2 i
      · have e1 : ((xs.map (Act.eval ⟨tm, []⟩)).toArray ++ #[c1, c2]).getD i undef = (#[c1, c2] : Array Value).getD (i - args.length) undef := by
          simp only [Array.getD_eq_getD_getElem?]
          rw [Array.getElem?_append_right (by simpa using (by omega : (xs.map (Act.eval ⟨tm, []⟩)).length ≤ i))]
          have hl2 : xs.length = args.length := by simpa using hl
          simp only [List.size_toArray, List.length_map, hl2]
        have e2 : (args ++ [AV.ro (bxP A1 0), .ro (bxP A2 0)]).getD i .any = [AV.ro (bxP A1 0), .ro (bxP A2 0)].getD (i - args.length) .any := by
          simp only [List.getD_eq_getElem?_getD]
          rw [List.getElem?_append_right (by omega)]
        rw [e1, e2]
        match i - args.length with
        | 0 => exact .ro ((bxP A1 0).up kt h1)
        | 1 => exact .ro ((bxP A2 0).up kt h2)
        | j + 2 => exact .any _
    · rintro e w'' ⟨rfl, hb⟩
      exact ⟨rfl, fun _ => (hw' rfl).trans (hb.mono (hw' rfl).size)⟩
end
section
variable {P : Program} {env : Env} {os : List AO} {l rest : List Oper} {K : APost}
/-- A box is no longer written to, from now on. -/
theorem AOps.freezeB (k b : Nat) {T : TypeId} {avs : List AV} (hk : env.fd k = some (.optr b 0)) (hs : os[b]? = some (.bx T avs)) (hf : ∀ a ∈ avs, a.hf0) (h : AOps P .seq l rest K (env.up k (.ro (bxP avs 0))) (os.set b .dead)) : AOps P .seq l rest K env os := by
  intro base w0 w gs tm hr hb X Rt
  refine h base w0 w gs tm ?_ hb X Rt
  have hgl : b < gs.length := by rw [hr.hl]; exact (List.getElem?_eq_some_iff.1 hs).1
  obtain ⟨gb, hg⟩ : ∃ x, gs[b]? = some x := ⟨_, List.getElem?_eq_getElem hgl⟩
  obtain ⟨cs, c1, c2, c3, c4, c5, c6, c7⟩ := hr.ho _ _ _ hg hs
  have oget : ∀ {i : Nat} {y : AO}, (os.set b .dead)[i]? = some y → y ≠ .dead → i ≠ b ∧ os[i]? = some y := by
    intro i y hy hny
    rw [List.getElem?_set] at hy
    split at hy
    · split at hy
      · cases hy; exact absurd rfl hny
      · cases hy
    · rename_i hne; exact ⟨fun e => hne e.symm, hy⟩
  have kp : Keeps (okOf gs os) (okOf gs (os.set b .dead)) w w := by
    intro c hc _
    refine ⟨fun i x y hx hy hl hm => ?_, rfl⟩
    exact hc i x y hx (oget hy hl.ne).2 hl hm
  have hok : okOf gs (os.set b .dead) gb.b := by
    intro i x y hx hy hl hm
    obtain ⟨h1, h2⟩ := oget hy hl.ne
    exact hr.hd i b x gb y _ h1 hx hg h2 hs hl.ne (by simp) gb.b hm (by rw [c3]; simp)
  have hptr : RV w (okOf gs (os.set b .dead)) gs (.pointer (some ⟨gb.b, 0, none⟩)) (.ro (bxP avs 0)) :=
    .ro ⟨hf, gb.b, T, cs, rfl, hok, c1, c5, fun j => RV.hfm0 (getD_mem_any hf trivial j) kp (c7 j)⟩
  have hbk : RV w (okOf gs os) gs (tm.getD k undef) (.optr b 0) := by
    have := hr.he k
    rw [Env.lk_of hk] at this
    exact this
  have hval : tm.getD k undef = .pointer (some ⟨gb.b, 0, none⟩) := by
    generalize tm.getD k undef = u at hbk
    cases hbk with
    | optr hg2 => rw [hg] at hg2; cases hg2; rfl
  refine ⟨hr.hb, by rw [List.length_set]; exact hr.hl, hr.hs, fun i => ?_, ?_, ?_, ?_⟩
  · rw [Env.lk_up]
    split
    · rename_i h1; rw [h1.1, hval]; exact hptr
    · exact (hr.he i).mono kp fun _ _ e => e
  · intro i x y hx hy
    by_cases hd : y = .dead
    · subst hd; trivial
    obtain ⟨h1, h2⟩ := oget hy hd
    exact (hr.ho i x y hx h2).mono kp (fun _ _ e => e) fun _ _ _ => rfl
  · intro i j x y o1 o2 hij hx hy ho1 ho2 hn1 hn2
    exact hr.hd i j x y o1 o2 hij hx hy (oget ho1 hn1).2 (oget ho2 hn2).2 hn1 hn2
  · intro i x y hx hy hny
    exact hr.hn i x y hx (oget hy hny).2 hny
end
section
variable {P : Program} {env : Env} {os : List AO} {d : Tmp} {ty : TypeId} {pos : String} {af : Array Edge} {g : Option (Nat × Bool)} {l rest : List Oper} {K : APost} {q : Md}
theorem w_ldfz {t : TypeId} [TCell P t] {x : Operand} {avs : List AV} {i : Nat} {a : AV} (hw : wantedA l env ⟨some d, .load t x, ty, pos, af, g⟩ = some true) (hx : evo env x = some (.ro (bxP avs i))) (ha : avs[i]? = some a) (hq : q.wl = false)
    (h' : AOps P q l rest K (env.up d a) os) : AOps P q l (⟨some d, .load t x, ty, pos, af, g⟩ :: rest) K env os := AOps.qo hw (by rw [hq]; exact q_ldfz (ev_of hx) ha) h'
theorem w_makef2 {f : FuncId} {x y : Operand} {A1 A2 : List AV} (hw : wantedA l env ⟨some d, .makeFunc (.func f) #[] #[x, y], ty, pos, af, g⟩ = some true) (hx : evo env x = some (.ro (bxP A1 0))) (hy : evo env y = some (.ro (bxP A2 0)))
    (h' : AOps P q l rest K (env.up d (.ro (clR2 f A1 A2))) os) : AOps P q l (⟨some d, .makeFunc (.func f) #[] #[x, y], ty, pos, af, g⟩ :: rest) K env os := AOps.qo hw (q_makef2 (ev_of hx) (ev_of hy)) h'
theorem w_callk2 {f : FuncId} {args : List AV} {A1 A2 : List AV} {v : Value} {x : Operand} {xs : List Operand} {ats : Array TypeId} (hc : AFnV P f (args ++ [.ro (bxP A1 0), .ro (bxP A2 0)]) v) (hx : evo env x = some (.ro (clR2 f A1 A2)))
    (hw : wantedA l env ⟨some d, .call { callee := .value x, args := xs.toArray, argTypes := ats }, ty, pos, af, g⟩ = some true) (hq : q.wl = false) (hi : Imms os (xs.map (AV.ev env)) args)
    (h' : AOps P q l rest K (env.up d (.val v)) os) : AOps P q l (⟨some d, .call { callee := .value x, args := xs.toArray, argTypes := ats }, ty, pos, af, g⟩ :: rest) K env os := AOps.qo hw (by rw [hq]; exact q_callk2 hc (ev_of hx) hi) h'
theorem w_boxv {T : TypeId} {x : Operand} {v : Value} {m : Nat} (hx : evo env x = some (.val v)) (h1 : v.oneCell' = true) (hc : v.cells = #[v]) (hm : os.length = m)
    (h' : AOps P .seq l rest K (env.up d (.optr m 0)) (os ++ [.bx T [.val v]])) : AOps P .seq l (⟨some d, .box T x, ty, pos, af, none⟩ :: rest) K env os := AOps.lo (hm ▸ l_box_val (ev_of hx) h1 hc) h'
end
end Go.Proofs.Ytlkhcelodcneiaa
/-
  Whether a graph has an edge, walked: the program's closure. No condition but sizes.
-/
namespace Go.Proofs.Ytlkhcelodcneiaa
open Go Go.RowKit
attribute [local irreducible] AWp AOps ResIs Ret1 QOp LOp COp AFnV AFn Imms LeE LeO
set_option maxHeartbeats 1000000
set_option linter.unusedSimpArgs false
set_option linter.unusedVariables false

/-- The first place of a row, or -1. -/
def ixK (c : List Int) : List (List Int) → Nat → Int
  | [], _ => -1
  | x :: xs, j => if x = c then j else ixK c xs (j + 1)
theorem ixK_mem (c : List Int) : ∀ (xs : List (List Int)) (j : Nat), decide (0 ≤ ixK c xs j) = decide (c ∈ xs)
  | [], j => by simp [ixK]
  | x :: xs, j => by
    rw [ixK]
    split
    · rename_i e
      simp [e]
    · rename_i e
      rw [ixK_mem c xs (j + 1)]
      simp [Ne.symm e]
/-- The closure that looks for an edge. -/
abbrev cEd (i k : Int) : Ro := clR2 34 [.i i] [.i k]
theorem edge_c (a b : Int) (ha : inI a) (hb : inI b) : AFn Try.prog 36 [.i a, .i b] (IsInts 2 [min a b, max a b]) := by
  unfold inI at ha hb
  (refine AFn.start Try.func36 Try.ntmps36 rfl (by kernel_rfl) fun hk => ?_; simp only [Env.start, enumF, List.length_cons, List.length_nil, Nat.reduceAdd, Nat.reduceSub, List.cons_append, List.nil_append])
  repeat' (first | (apply AOps.nil; try simp only [List.nil_append, List.cons_append, List.set_cons_zero, List.set_cons_succ, List.length_cons, List.length_nil, Nat.reduceAdd, AV.sh, AV.sh1, AV.sh0, AO.sh, List.map_cons, List.map_nil, Nat.zero_add, Nat.add_zero, setAll]) | (apply w_move; exact rfl; exact rfl) | (apply w_assign; exact rfl; exact rfl) | apply AWp.seq | apply AWp.region | apply AWp.ret | ((first | apply w_min | apply w_max | apply w_bs2); iterate 3 exact rfl) | (apply inI_of <;> omega))
  all_goals exact ⟨_, _, _, .v1 Try.results36 rfl, .sli rfl, rfl, rfl⟩
theorem hasEdge1_c (e : List Int) (i k : Int) (ii : inI i) (kk : inI k) : AFnV Try.prog 34 [.ints e, .ro (bxP [.i i] 0), .ro (bxP [.i k] 0)] (.bool (decide (e = [min i k, max i k]))) := by
  have he := edge_c i k ii kk
  have hs := slicesEqual_c e [min i k, max i k]
  (refine AFnV.start Try.func34 Try.ntmps34 rfl (by kernel_rfl) fun hk => ?_; simp only [Env.start, enumF, List.length_cons, List.length_nil, Nat.reduceAdd, Nat.reduceSub, List.cons_append, List.nil_append])
  repeat' (first | (apply AOps.nil; try simp only [List.nil_append, List.cons_append, List.set_cons_zero, List.set_cons_succ, List.length_cons, List.length_nil, Nat.reduceAdd, AV.sh, AV.sh1, AV.sh0, AO.sh, List.map_cons, List.map_nil, Nat.zero_add, Nat.add_zero, setAll]) | (apply w_move; exact rfl; exact rfl) | (apply w_assign; exact rfl; exact rfl) | apply AWp.seq | apply AWp.region | apply AWp.ret | (apply w_ldfz; (exact rfl); exact rfl; exact rfl; exact rfl) | (apply w_callm (he); (focus ((repeat (first | exact im_nil | refine im_cons rfl (.val _) ?_)); done)); rintro r os0 ⟨rfl, rfl⟩; try simp only [List.nil_append, List.cons_append, List.set_cons_zero, List.set_cons_succ, List.length_cons, List.length_nil, Nat.reduceAdd, AV.sh, AV.sh1, AV.sh0, AO.sh, List.map_cons, List.map_nil, Nat.zero_add, Nat.add_zero, setAll]) | (apply w_call (hs); exact rfl; exact rfl; focus ((repeat (first | exact im_nil | refine im_cons rfl (.ints _) ?_ | refine im_cons rfl (.sli rfl) ?_)); done)))
  all_goals exact .bool Try.results34 rfl rfl
theorem indexFunc_c (E : List (List Int)) (i k : Int) (ii : inI i) (kk : inI k) (hE : E.length ≤ 1000) : AFnV Try.prog 49 [.intss E, .ro (cEd i k)] (.int .i64 (ixK [min i k, max i k] E 0)) := by
  have h1 : ∀ e : List Int, AFnV Try.prog 34 ([.ints e] ++ [.ro (bxP [.i i] 0), .ro (bxP [.i k] 0)]) (.bool (decide (e = [min i k, max i k]))) := fun e => hasEdge1_c e i k ii kk
  (refine AFnV.start Try.func49 Try.ntmps49 rfl (by kernel_rfl) fun hk => ?_; simp only [Env.start, enumF, List.length_cons, List.length_nil, Nat.reduceAdd, Nat.reduceSub, List.cons_append, List.nil_append])
  repeat' (first | (apply AOps.nil; try simp only [List.nil_append, List.cons_append, List.set_cons_zero, List.set_cons_succ, List.length_cons, List.length_nil, Nat.reduceAdd, AV.sh, AV.sh1, AV.sh0, AO.sh, List.map_cons, List.map_nil, Nat.zero_add, Nat.add_zero, setAll]) | (apply w_move; exact rfl; exact rfl) | (apply w_assign; exact rfl; exact rfl) | apply AWp.seq | apply AWp.region | apply AWp.block | (apply w_len; exact rfl; exact rfl; first | exact .ints _ | exact .intss _ | exact .sli rfl | exact .sls rfl | exact .slr rfl | exact .orow rfl | exact .nil))
  refine AWp.loop (ι := Nat) (fun j => ⟨19, [(0, .intss E), (1, .ro (cEd i k)), (7, .i E.length), (8, .i j)]⟩) (fun _ => []) (fun j => j ≤ E.length ∧ ixK [min i k, max i k] (E.drop j) j = ixK [min i k, max i k] E 0) (fun j => E.length - j) 0 ⟨Nat.zero_le _, by simp⟩ ⟨lee rfl (by (repeat (first | exact le_nil | refine le_eq rfl rfl ?_))), by (repeat (exact lo_nil)), rfl, rfl⟩ ?_
  rintro j ⟨j0, j1⟩
  by_cases hj : j < E.length
  · have hc := h1 (gets E (j : Nat))
    have eg : E[j] = gets E (j : Nat) := by simp [gets, hj]
    rw [List.drop_eq_getElem_cons hj, eg, ixK] at j1
    by_cases he : gets E (j : Nat) = [min i k, max i k]
    · rw [if_pos he] at j1
      rw [← j1]
      rw [decide_eq_true he] at hc
      repeat' (first | (apply AOps.nil; try simp only [List.nil_append, List.cons_append, List.set_cons_zero, List.set_cons_succ, List.length_cons, List.length_nil, Nat.reduceAdd, AV.sh, AV.sh1, AV.sh0, AO.sh, List.map_cons, List.map_nil, Nat.zero_add, Nat.add_zero, setAll]) | (apply w_move; exact rfl; exact rfl) | (apply w_assign; exact rfl; exact rfl) | apply AWp.seq | apply AWp.region | ((apply AWp.condP; exact rfl) <;> intro h) | (apply AWp.condT; exact rfl) | apply AWp.block | apply AWp.ret | apply AWp.exit | apply AWp.skip | (apply w_callk2 (hc); (exact rfl); exact rfl; exact rfl; (focus ((repeat (first | exact im_nil | refine im_cons rfl (.ints _) ?_)); done))) | omega | ((first | apply w_lss | apply w_idx | apply w_ld); iterate 3 exact rfl) | ((first | apply w_idxs | apply w_lds); iterate 3 exact rfl))
      all_goals exact .int Try.results49 rfl rfl
    · rw [if_neg he] at j1
      rw [decide_eq_false he] at hc
      repeat' (first | (apply AOps.nil; try simp only [List.nil_append, List.cons_append, List.set_cons_zero, List.set_cons_succ, List.length_cons, List.length_nil, Nat.reduceAdd, AV.sh, AV.sh1, AV.sh0, AO.sh, List.map_cons, List.map_nil, Nat.zero_add, Nat.add_zero, setAll]) | (apply w_move; exact rfl; exact rfl) | (apply w_assign; exact rfl; exact rfl) | apply AWp.seq | apply AWp.region | ((apply AWp.condP; exact rfl) <;> intro h) | (apply AWp.condF; exact rfl) | apply AWp.block | apply AWp.ret | apply AWp.exit | apply AWp.skip | (apply w_callk2 (hc); (exact rfl); exact rfl; exact rfl; (focus ((repeat (first | exact im_nil | refine im_cons rfl (.ints _) ?_)); done))) | omega | ((first | apply w_lss | apply w_add | apply w_idx | apply w_ld); iterate 3 exact rfl) | ((first | apply w_idxs | apply w_lds); iterate 3 exact rfl) | (apply inI_of <;> omega))
      exact ⟨j + 1, ⟨by omega, j1⟩, by omega, ⟨lee rfl (by (repeat (first | exact le_nil | refine le_eq rfl rfl ?_))), by (repeat (exact lo_nil)), rfl, rfl⟩⟩
  · obtain rfl : j = E.length := by omega
    rw [List.drop_length, ixK] at j1
    rw [← j1]
    repeat' (first | (apply AOps.nil; try simp only [List.nil_append, List.cons_append, List.set_cons_zero, List.set_cons_succ, List.length_cons, List.length_nil, Nat.reduceAdd, AV.sh, AV.sh1, AV.sh0, AO.sh, List.map_cons, List.map_nil, Nat.zero_add, Nat.add_zero, setAll]) | (apply w_move; exact rfl; exact rfl) | (apply w_assign; exact rfl; exact rfl) | apply AWp.seq | apply AWp.region | ((apply AWp.condP; exact rfl) <;> intro h) | apply AWp.block | apply AWp.ret | apply AWp.exit | apply AWp.skip | omega | ((apply w_lss); iterate 3 exact rfl))
    all_goals exact .int Try.results49 rfl rfl
theorem containsFunc_c (E : List (List Int)) (i k : Int) (ii : inI i) (kk : inI k) (hE : E.length ≤ 1000) : AFnV Try.prog 33 [.intss E, .ro (cEd i k)] (.bool (decide ([min i k, max i k] ∈ E))) := by
  have h1 := indexFunc_c E i k ii kk hE
  (refine AFnV.start Try.func33 Try.ntmps33 rfl (by kernel_rfl) fun hk => ?_; simp only [Env.start, enumF, List.length_cons, List.length_nil, Nat.reduceAdd, Nat.reduceSub, List.cons_append, List.nil_append])
  repeat' (first | (apply AOps.nil; try simp only [List.nil_append, List.cons_append, List.set_cons_zero, List.set_cons_succ, List.length_cons, List.length_nil, Nat.reduceAdd, AV.sh, AV.sh1, AV.sh0, AO.sh, List.map_cons, List.map_nil, Nat.zero_add, Nat.add_zero, setAll]) | (apply w_move; exact rfl; exact rfl) | (apply w_assign; exact rfl; exact rfl) | apply AWp.seq | apply AWp.region | apply AWp.ret | (apply w_call (h1); exact rfl; exact rfl; focus ((repeat (first | exact im_nil | refine im_cons rfl (.ro _) ?_ | refine im_cons rfl (.intss _) ?_)); done)) | ((apply w_geq); iterate 3 exact rfl))
  all_goals exact .bool Try.results33 rfl (ixK_mem _ E 0)
theorem hasEdge_c (W : List Int) (E : List (List Int)) (i k : Int) (ii : inI i) (kk : inI k) (hE : E.length ≤ 1000) : AFnV Try.prog 18 [.agg [.ints W, .intss E], .i i, .i k] (.bool (decide ([min i k, max i k] ∈ E))) := by
  have h1 := containsFunc_c E i k ii kk hE
  (refine AFnV.start Try.func18 Try.ntmps18 rfl (by kernel_rfl) fun hk => ?_; simp only [Env.start, enumF, List.length_cons, List.length_nil, Nat.reduceAdd, Nat.reduceSub, List.cons_append, List.nil_append])
  repeat' (first | (apply AOps.nil; try simp only [List.nil_append, List.cons_append, List.set_cons_zero, List.set_cons_succ, List.length_cons, List.length_nil, Nat.reduceAdd, AV.sh, AV.sh1, AV.sh0, AO.sh, List.map_cons, List.map_nil, Nat.zero_add, Nat.add_zero, setAll]) | (apply w_assign; exact rfl; exact rfl) | apply AWp.seq | apply AWp.region | (apply w_boxv; (exact rfl); exact rfl; exact rfl; exact rfl) | ((first | apply w_ld | apply w_fa); iterate 3 exact rfl) | ((apply w_boxa); iterate 2 exact rfl) | (apply w_ldb; iterate 5 exact rfl))
  refine AOps.freezeB 4 1 (avs := [.i i]) rfl rfl (fun a ha => by rw [List.mem_singleton.1 ha]; trivial) ?_
  refine AOps.freezeB 5 2 (avs := [.i k]) rfl rfl (fun a ha => by rw [List.mem_singleton.1 ha]; trivial) ?_
  repeat' (first | (apply AOps.nil; try simp only [List.nil_append, List.cons_append, List.set_cons_zero, List.set_cons_succ, List.length_cons, List.length_nil, Nat.reduceAdd, AV.sh, AV.sh1, AV.sh0, AO.sh, List.map_cons, List.map_nil, Nat.zero_add, Nat.add_zero, setAll]) | (apply w_assign; exact rfl; exact rfl) | apply AWp.ret | (apply w_makef2; (exact rfl); exact rfl; exact rfl) | (apply w_call (h1); exact rfl; exact rfl; focus ((repeat (first | exact im_nil | refine im_cons rfl (.ro _) ?_ | refine im_cons rfl (.intss _) ?_)); done)))
  all_goals exact .bool Try.results18 rfl rfl
end Go.Proofs.Ytlkhcelodcneiaa
/-
  A struct whose first field is a struct of two fields. No condition.
-/
namespace Go.Proofs.Ytlkhcelodcneiaa
open Go Go.RowKit
set_option linter.unusedVariables false

class TNest (P : Program) (t : TypeId) (z1 z2 z3 : outParam Value) : Prop where
  info : ∃ i, P.info? t = some i ∧ i.zero = some (.agg #[z1, z2, z3])
  und : ∃ fs, P.underlying t = some (.struct fs) ∧ fs.toList.mapM (fun f => (P.info? f.type).map fun i => (f.offset, i.size)) = some [(0, 2), (2, 1)]
theorem im_agg3 {os : List AO} {a a' b b' c c' : AV} (h : Imm os a a') (h2 : Imm os b b') (h3 : Imm os c c') : Imm os (.agg [a, b, c]) (.agg [a', b', c']) := Imm.aggs ⟨h, h2, h3, trivial⟩
class TFst (P : Program) (t : TypeId) : Prop where
  fld : ∃ fs fd i, P.underlying t = some (.struct fs) ∧ fs[0]? = some fd ∧ fd.offset = 0 ∧ P.info? fd.type = some i ∧ i.size = 2
theorem TNest.bl {P : Program} {t : TypeId} {z1 z2 z3 : Value} [h : TNest P t z1 z2 z3] (parts : List (Nat × Value)) : P.built t parts = Instr.fill (([(0, 2), (2, 1)] : List (Nat × Nat)).toArray[·]?) #[z1, z2, z3] parts := by
  obtain ⟨ii, hi, hz⟩ := h.info
  obtain ⟨fs, hu, hp⟩ := h.und
  unfold Program.built
  rw [hi, hu]
  simp only [hz, hp]
  rfl
section
variable {P : Program} {env : Env} {os : List AO} {d : Option Tmp} {ty : TypeId} {pos : String} {af : Array Edge} {g : Option (Nat × Bool)} {wl : Bool}
theorem q_nest0 {t : TypeId} {z1 z2 z3 : Value} [ht : TNest P t z1 z2 z3] (h1 : z1.oneCell' = true) (h2 : z2.oneCell' = true) (h3 : z3.oneCell' = true) :
    QOp P wl ⟨d, .build t #[], ty, pos, af, g⟩ env os (.agg [.val z1, .val z2, .val z3]) :=
  .of_run fun _ w gs tm hr => by
    refine ⟨.agg [z1, z2, z3].toArray, .agg rfl (by simp; exact ⟨h1, h2, h3⟩) (rv_list rfl fun i hi => ?_), fun w' _ => ?_⟩
    · match i, hi with
      | 0, _ => exact .val _
      | 1, _ => exact .val _
      | 2, _ => exact .val _
    · have hb : P.built t (#[] : Array (Nat × Value)).toList = some #[z1, z2, z3] := by rw [TNest.bl]; rfl
      simp [execOp, run_build (P := P) w' t _ _ hb]
theorem q_nest2 {t : TypeId} {z1 z2 z3 : Value} [ht : TNest P t z1 z2 z3] {x y : Operand} {a b c : AV} (hx : AV.ev env x = .agg [a, b]) (hy : AV.ev env y = c) (o3 : OneC env os c) :
    QOp P wl ⟨d, .build t #[(0, x), (1, y)], ty, pos, af, g⟩ env os (.agg [a, b, c]) :=
  .of_run fun _ w gs tm hr => by
    have v1 := hr.ev x
    rw [hx] at v1
    have v2 := hr.ev y
    rw [hy] at v2
    obtain ⟨p3, c3⟩ := o3 _ _ _ _ hr _ v2
    generalize hu : Act.eval ⟨tm, []⟩ x = u at v1
    cases v1 with
    | @agg vs _ k1 ko k2 =>
      match vs, k1, ko, k2 with
      | [u1, u2], _, ko, k2 =>
        have a1 := k2 0
        have a2 := k2 1
        simp at a1 a2
        refine ⟨.agg [u1, u2, Act.eval ⟨tm, []⟩ y].toArray, .agg rfl (by simp at ko ⊢; exact ⟨ko.1, ko.2, p3⟩) (rv_list rfl fun i hi => ?_), fun w' _ => ?_⟩
        · match i, hi with
          | 0, _ => exact a1
          | 1, _ => exact a2
          | 2, _ => exact v2
        · have hb : P.built t (#[(0, Value.agg #[u1, u2]), (1, Act.eval ⟨tm, []⟩ y)] : Array (Nat × Value)).toList = some #[u1, u2, Act.eval ⟨tm, []⟩ y] := by
            have e1 : (Value.agg #[u1, u2]).cells = #[u1, u2] := rfl
            rw [TNest.bl]
            generalize Value.agg #[u1, u2] = ag at e1
            generalize Act.eval ⟨tm, []⟩ y = X at c3
            simp [Instr.fill, e1, c3]
          simp [execOp, hu, run_build (P := P) w' t _ _ hb]
/-- The place of the first part. -/
theorem q_fa0 {t : TypeId} [ht : TFst P t] {x : Operand} {h i : Nat} (hx : AV.ev env x = .optr h i) : QOp P wl ⟨d, .fieldAddr t x 0, ty, pos, af, g⟩ env os (.optr h i) :=
  .of_run fun _ w gs tm hr => by
    have hh := hr.ev x
    rw [hx] at hh
    generalize hv : Act.eval ⟨tm, []⟩ x = v at hh
    cases hh with
    | optr hg =>
      refine ⟨_, .optr hg, fun w' hw' => ?_⟩
      obtain ⟨fs, fd, ii, h1, h2, h3, h4, h5⟩ := ht.fld
      simp [execOp, hv, Instr.fieldAt, run_underlying h1, h2, Instr.sureAddr, fieldPlace, sizeOf, typeInfo, h4, h5, h3, add_none]
theorem run_load2 {t : TypeId} {zs : List Value} [ht : TStruct P t 2 zs] {a : Addr} {u v : Value} {w : World} (hc : w.cell? a = some u) (hd : w.cell? (a.add 1) = some v) : (Instr.loadAt t (.pointer (some a))).run P w = .ok (.agg #[u, v]) w := by
  obtain ⟨dd, hu, hd1⟩ := ht.und
  obtain ⟨ii, hi, hs, _⟩ := ht.info
  have h1 : (isAgg t).run P w = .ok true w := by
    unfold isAgg
    simp only [Sem.run_bind, run_underlying hu, Result.andThen_ok]
    cases dd <;> first | rfl | simp at hd1
  have h2 : (loadCells a 2).run P w = .ok #[u, v] w := by
    have := run_loadCells_list (P := P) w a [u, v] (fun j x hv => by
      match j, hv with
      | 0, hv =>
        simp at hv; subst hv
        rw [Addr.add_zero']; exact hc
      | 1, hv =>
        simp at hv; subst hv
        exact hd)
    simpa using this
  simp only [Instr.loadAt, Instr.sureAddr, loadVar, Sem.run_bind, Sem.run_pure, Result.andThen_ok, h1, if_true, sizeOf, typeInfo, run_program]
  simp [hi, hs, h2]
/-- The first two cells of a box. -/
theorem q_ld2 {t : TypeId} {zs : List Value} [ht : TStruct P t 2 zs] {x : Operand} {h : Nat} {T : TypeId} {a b c : AV} (hx : AV.ev env x = .optr h 0) (hs : os[h]? = some (.bx T [a, b, c])) : QOp P false ⟨d, .load t x, ty, pos, af, g⟩ env os (.agg [a, b]) :=
  .of_runb fun _ w gs tm hr => by
    have hh := hr.ev x
    rw [hx] at hh
    generalize hv : Act.eval ⟨tm, []⟩ x = v at hh
    cases hh with
    | optr hg =>
      obtain ⟨cs, a1, a2, a3, a4, a5, a6, a7⟩ := hr.ho _ _ _ hg hs
      match cs, a5 with
      | [u1, u2, u3], _ =>
        refine ⟨.agg [u1, u2].toArray, .agg rfl (by simp at a6 ⊢; exact ⟨a6.1, a6.2.1⟩) (rv_list rfl fun i hi => ?_), fun w' hw' => ?_⟩
        · match i, hi with
          | 0, _ => exact a7 0
          | 1, _ => exact a7 1
        · have c0 := below_cell hw' (u := u1) (by rw [cell_of_row w _ 0 _ T (0, 0) a1]; rfl)
          have c1 := below_cell hw' (u := u2) (by rw [cell_of_row w _ 1 _ T (0, 0) a1]; rfl)
          have := run_load2 (P := P) (t := t) (a := ⟨_, 0, none⟩) c0 (by rw [Addr.add]; exact c1)
          simp only [execOp, hv, Sem.run_bind, this, Result.andThen_ok, Sem.run_pure]
end
section
variable {P : Program} {env : Env} {os : List AO} {d : Tmp} {ty : TypeId} {pos : String} {af : Array Edge} {g : Option (Nat × Bool)} {l rest : List Oper} {K : APost} {q : Md}
theorem w_nest0 {t : TypeId} {z1 z2 z3 : Value} [TNest P t z1 z2 z3] (hw : wantedA l env ⟨some d, .build t #[], ty, pos, af, g⟩ = some true) (h1 : z1.oneCell' = true) (h2 : z2.oneCell' = true) (h3 : z3.oneCell' = true)
    (h' : AOps P q l rest K (env.up d (.agg [.val z1, .val z2, .val z3])) os) : AOps P q l (⟨some d, .build t #[], ty, pos, af, g⟩ :: rest) K env os := AOps.qo hw (q_nest0 h1 h2 h3) h'
theorem w_nest2 {t : TypeId} {z1 z2 z3 : Value} [TNest P t z1 z2 z3] {x y : Operand} {a b c : AV} (hw : wantedA l env ⟨some d, .build t #[(0, x), (1, y)], ty, pos, af, g⟩ = some true) (hx : evo env x = some (.agg [a, b])) (hy : evo env y = some c) (o3 : OneC env os c)
    (h' : AOps P q l rest K (env.up d (.agg [a, b, c])) os) : AOps P q l (⟨some d, .build t #[(0, x), (1, y)], ty, pos, af, g⟩ :: rest) K env os := AOps.qo hw (q_nest2 (ev_of hx) (ev_of hy) o3) h'
theorem w_fa0 {t : TypeId} [TFst P t] {x : Operand} {h i : Nat} (hw : wantedA l env ⟨some d, .fieldAddr t x 0, ty, pos, af, g⟩ = some true) (hx : evo env x = some (.optr h i))
    (h' : AOps P q l rest K (env.up d (.optr h i)) os) : AOps P q l (⟨some d, .fieldAddr t x 0, ty, pos, af, g⟩ :: rest) K env os := AOps.qo hw (q_fa0 (ev_of hx)) h'
theorem w_ld2 {t : TypeId} {zs : List Value} [TStruct P t 2 zs] {x : Operand} {h : Nat} {T : TypeId} {a b c : AV} (hw : wantedA l env ⟨some d, .load t x, ty, pos, af, g⟩ = some true) (hx : evo env x = some (.optr h 0)) (hs : os[h]? = some (.bx T [a, b, c])) (hq : q.wl = false)
    (h' : AOps P q l rest K (env.up d (.agg [a, b])) os) : AOps P q l (⟨some d, .load t x, ty, pos, af, g⟩ :: rest) K env os := AOps.qo hw (by rw [hq]; exact q_ld2 (ev_of hx) hs) h'
end
end Go.Proofs.Ytlkhcelodcneiaa
/-
  A closure that marks, and that holds a box with itself. No condition.
-/
namespace Go.Proofs.Ytlkhcelodcneiaa
open Go Go.RowKit
set_option linter.unusedVariables false
set_option linter.unusedSimpArgs false

/-- An own slice of truth values, as an open object. -/
def blOb (e : TypeId) (bs : List Bool) : Ob where
  p base w g := w.ownsRow base e 1 g.v bs.length (bs.map Value.bool) ∧ GB g
  up hb h := ⟨ownsRow_of_block h.1 fun c hc => hb c (by
    rcases h.2 with ⟨h1, _⟩ | ⟨h1, h2⟩
    · rw [h1] at hc; cases hc
    · rw [h1] at hc; cases hc; rw [h2]; simp), h.2⟩
  lower hl h := ⟨owns_lower hl h.1, h.2⟩
  one h := by
    obtain ⟨a, cap, e1⟩ := ownsRow_slice h.1
    rw [e1]; exact ⟨rfl, rfl⟩
theorem bl_vals {w : World} {ok : Nat → Prop} {gs : List Gh} {vs : List Value} {bs : List Bool} (a2 : vs.length = bs.length) (a3 : ∀ i : Nat, RV w ok gs (vs.getD i undef) ((bL bs).getD i .any)) : vs = bs.map Value.bool := by
  apply List.ext_getElem (by simp [a2])
  intro i h1 h2
  have h5 := a3 i
  have hi : i < bs.length := by omega
  rw [List.getD_eq_getElem?_getD, List.getElem?_eq_getElem h1, List.getD_eq_getElem?_getD, bL_get hi] at h5
  simp only [Option.getD_some] at h5
  generalize hu : vs[i] = u at h5
  cases h5
  simp [List.getD_eq_getElem?_getD, hi]
theorem bL_sh (n : Nat) (bs : List Bool) : (bL bs).map (AV.sh n) = bL bs := by unfold bL; rw [List.map_map]; rfl
/-- A box of one cell, whose value is known, as an open object. -/
def cellOb (T : TypeId) (u : Value) : Ob where
  p base w g := w.heap[g.b]? = some (.cells #[u] T (0, 0)) ∧ base ≤ g.b ∧ g.bl = [g.b] ∧ g.v = .pointer (some ⟨g.b, 0, none⟩)
  up hb h := ⟨by rw [hb _ (by simp [h.2.2.1])]; exact h.1, h.2⟩
  lower hl h := ⟨h.1, Nat.le_trans hl h.2.1, h.2.2⟩
  one h := by rw [h.2.2.2]; exact ⟨rfl, rfl⟩
/-- The closure's value: two boxes that nothing writes to, and the place B. -/
def clP (f0 : FuncId) (V : Value) (avs : List AV) (B : Nat) : Ro where
  p w ok v := ∃ c1 c2, v = .func (.func f0) #[] #[c1, c2, .pointer (some ⟨B, 0, none⟩)] ∧ (bxP [.val V] 0).p w ok c1 ∧ (bxP avs 0).p w ok c2
  up k h := by
    obtain ⟨c1, c2, e, h1, h2⟩ := h
    exact ⟨c1, c2, e, (bxP [.val V] 0).up k h1, (bxP avs 0).up k h2⟩
/-- A pointer to the box that holds the closure. -/
def mkR (f0 : FuncId) (V : Value) (avs : List AV) : Ro where
  p w ok v := ∃ B T u, v = .pointer (some ⟨B, 0, none⟩) ∧ ok B ∧ w.heap[B]? = some (.cells #[u] T (0, 0)) ∧ (clP f0 V avs B).p w ok u
  up k h := by
    obtain ⟨B, T, u, e, h1, h2, h3⟩ := h
    have hlt : B < _ := (Array.getElem?_eq_some_iff.1 h2).1
    have hk := k B h1 hlt
    exact ⟨B, T, u, e, hk.1, by rw [hk.2]; exact h2, (clP f0 V avs B).up k h3⟩
/-- The closure. -/
def clR3 (f0 : FuncId) (V : Value) (avs : List AV) : Ro where
  p w ok v := ∃ c1 c2 c3, v = .func (.func f0) #[] #[c1, c2, c3] ∧ (bxP [.val V] 0).p w ok c1 ∧ (bxP avs 0).p w ok c2 ∧ (mkR f0 V avs).p w ok c3
  up k h := by
    obtain ⟨c1, c2, c3, e, h1, h2, h3⟩ := h
    exact ⟨c1, c2, c3, e, (bxP [.val V] 0).up k h1, (bxP avs 0).up k h2, (mkR f0 V avs).up k h3⟩
section
variable {P : Program} {env : Env} {os : List AO} {d : Option Tmp} {ty : TypeId} {pos : String} {af : Array Edge} {g : Option (Nat × Bool)} {wl : Bool}
theorem q_fafz {t : TypeId} {f off : Nat} [ht : TField P t f off] {x : Operand} {avs : List AV} (hx : AV.ev env x = .ro (bxP avs 0)) : QOp P wl ⟨d, .fieldAddr t x f, ty, pos, af, g⟩ env os (.ro (bxP avs off)) :=
  .of_run fun _ w gs tm hr => by
    have hh := hr.ev x
    rw [hx] at hh
    generalize hv : Act.eval ⟨tm, []⟩ x = v at hh
    cases hh with
    | ro h =>
      obtain ⟨hf, B, T, cs, rfl, h1, h2, h3, h4⟩ := h
      refine ⟨.pointer (some ⟨B, off, none⟩), .ro ⟨hf, B, T, cs, rfl, h1, h2, h3, h4⟩, fun w' hw' => ?_⟩
      obtain ⟨fs, fd, ii, h1, h2, h3, h4, h5, _⟩ := ht.fld
      simp [execOp, hv, Instr.fieldAt, run_underlying h1, h2, Instr.sureAddr, fieldPlace, sizeOf, typeInfo, h4, h5, h3, add_none]
theorem q_idxV {t e : TypeId} [ht : TSlice P t e] [he : TCell P e] {x y : Operand} {B n c : Nat} {i : Int} (hx : AV.ev env x = .val (.slice (some ⟨B, 0, none⟩) n c)) (hy : AV.ev env y = .i i) (h0 : 0 ≤ i) (h1 : i < n) :
    QOp P wl ⟨d, .indexAddr t x y, ty, pos, af, g⟩ env os (.val (.pointer (some ⟨B, i.toNat, none⟩))) :=
  .of_run fun _ w gs tm hr => by
    refine ⟨_, .val _, fun w' _ => ?_⟩
    obtain ⟨ie, hi, hs⟩ := he.info
    have hrun := run_idx ht.und hi hs ⟨B, 0, none⟩ n c i h0 h1 w'
    simp only [execOp, hr.evv hx, hr.evv hy, Sem.run_bind, hrun, add_none, Result.andThen_ok, Sem.run_pure, Nat.zero_add]
theorem q_ldmk {t : TypeId} [ht : TCell P t] {x : Operand} {f : FuncId} {V : Value} {avs : List AV} (hx : AV.ev env x = .ro (mkR f V avs)) : QOp P false ⟨d, .load t x, ty, pos, af, g⟩ env os (.ro (clR3 f V avs)) :=
  .of_runb fun _ w gs tm hr => by
    have h := hr.ev x
    rw [hx] at h
    generalize hv : Act.eval ⟨tm, []⟩ x = v at h
    cases h with
    | ro h =>
      have hm := h
      obtain ⟨B, T, u, rfl, h1, h2, c1, c2, e, h3, h4⟩ := h
      refine ⟨u, .ro ⟨c1, c2, _, e, h3, h4, hm⟩, fun w' hw' => ?_⟩
      have hcell := below_cell hw' (u := u) (a := ⟨B, 0, none⟩) (by simp [World.cell?, h2])
      simp only [execOp, hv, Sem.run_bind, run_load_cell hcell, Result.andThen_ok, Sem.run_pure]
theorem q_makef3 {f : FuncId} {x y z : Operand} {V V0 : Value} {avs : List AV} {m B : Nat} {q : Ob} (hp : Pinned q B V0) (hx : AV.ev env x = .ro (bxP [.val V] 0)) (hy : AV.ev env y = .ro (bxP avs 0)) (hz : AV.ev env z = .optr m 0) (hs : os[m]? = some (.ob q)) :
    QOp P wl ⟨d, .makeFunc (.func f) #[] #[x, y, z], ty, pos, af, g⟩ env os (.ro (clP f V avs B)) :=
  .of_run fun base w gs tm hr => by
    have h1 := hr.ev x
    have h2 := hr.ev y
    have h3 := hr.ev z
    rw [hx] at h1
    rw [hy] at h2
    rw [hz] at h3
    generalize hv1 : Act.eval ⟨tm, []⟩ x = v1 at h1
    generalize hv2 : Act.eval ⟨tm, []⟩ y = v2 at h2
    generalize hv3 : Act.eval ⟨tm, []⟩ z = v3 at h3
    cases h1 with
    | ro h1 =>
    cases h2 with
    | ro h2 =>
    cases h3 with
    | optr hg =>
    have hb := (hp _ _ _ (hr.ho _ _ _ hg hs)).1
    refine ⟨.func (.func f) #[] #[v1, v2, .pointer (some ⟨B, 0, none⟩)], .ro ⟨v1, v2, rfl, h1, h2⟩, fun w' _ => ?_⟩
    simp [execOp, Instr.makeFunc, hv1, hv2, hv3, hb]
/-- A truth value goes into its place. -/
theorem l_stV {t : TypeId} [ht : TCell P t] {x y : Operand} {B B' n c i h : Nat} {V' : Value} {e : TypeId} {bs : List Bool} {b : Bool} (hx : AV.ev env x = .val (.pointer (some ⟨B, i, none⟩))) (hs : os[h]? = some (.ob (pinOb (pinOb (blOb e bs) B (.slice (some ⟨B, 0, none⟩) n c)) B' V'))) (hi : i < bs.length) (hy : AV.ev env y = .b b) :
    LOp P ⟨d, .store t x y, ty, pos, af, g⟩ env os .any env (os.set h (.ob (pinOb (pinOb (blOb e (bs.set i b)) B (.slice (some ⟨B, 0, none⟩) n c)) B' V'))) := by
  intro base w gs tm hr
  have hgl : h < gs.length := by rw [hr.hl]; exact (List.getElem?_eq_some_iff.1 hs).1
  obtain ⟨gh, hg⟩ : ∃ x, gs[h]? = some x := ⟨_, List.getElem?_eq_getElem hgl⟩
  obtain ⟨⟨⟨a1, a4⟩, p1, p2⟩, p3, p4⟩ := hr.ho _ _ _ hg hs
  obtain ⟨bk, cap, e1, e2, e3, e4⟩ := own_slice a1 (i := i) (by simpa using hi)
  have eb := a4.eq e2
  have hst := (e1 ▸ a1 : w.ownsRow base e 1 (.slice (some ⟨bk, 0, none⟩) bs.length cap) bs.length (bs.map Value.bool)).stored i (.bool b)
  have hcell : w.cell? ⟨gh.b, i, none⟩ = some (.bool bs[i]) := by rw [eb, e3]; simp [hi]
  have hbl : gh.bl = [gh.b] := by
    rcases a4 with ⟨h1, _⟩ | ⟨_, h2⟩
    · rw [h1] at e2; cases e2
    · exact h2
  have hother : ∀ c, c < w.heap.size → c ∉ gh.bl → (w.setCell ⟨bk, i, none⟩ (.bool b)).heap[c]? = w.heap[c]? := fun c hc hcb => hst.2.block c hc (fun e' => hcb (by rw [hbl, eb]; simpa using e'))
  refine ⟨undef, w.setCell ⟨bk, i, none⟩ (.bool b), gs, .inr ⟨?_, rfl⟩, hr.upd hg hs trivial _ trivial hother hst.2.size fun kp => ?_, .any _, ?_⟩
  · have := run_store_cell (P := P) (t := t) (a := ⟨gh.b, i, none⟩) hcell (by rw [eb]; exact e4) (v := .bool b) rfl rfl
    rw [p1] at this
    have ebB : bk = B := by rw [← eb, p1]
    subst ebB
    simp only [execOp, hr.evv hx, hr.evv hy, Sem.run_bind, this, Result.andThen_ok, Sem.run_pure]
  · refine ⟨⟨⟨?_, a4⟩, p1, p2⟩, p3, p4⟩
    rw [e1, List.length_set]
    have e5 : (bs.set i b).map Value.bool = (bs.map Value.bool).set i (.bool b) := by rw [List.map_set]
    rw [e5]
    exact hst.1
  · have hbb : base ≤ bk := by rw [← eb]; exact (hr.hn _ _ _ hg hs (by simp) gh.b (by simp [hbl])).1
    exact (Below.refl _ _).setCell (p := ⟨bk, i, none⟩) hbb _
theorem c_callk3 {f : FuncId} {args : List AV} {q q' : Ob} {v : Value} (e2 : TypeId) {V : Value} {avs : List AV} (hc : AFnO P f (args ++ [.ro (bxP [.val V] 0), .ro (bxP avs 0), .ro (mkR f V avs)]) q q' v) {x : Operand} {xs : List Operand} {ats : Array TypeId} {h : Nat} (hx : AV.ev env x = .ro (clR3 f V avs)) (hs : os[h]? = some (.ob q)) (hi : ImmOs os h (xs.map (AV.ev env)) args) :
    COp P ⟨d, .call { callee := .value x, args := xs.toArray, argTypes := ats }, ty, pos, af, g⟩ env os (fun r e o => r = .val v ∧ e = env.mp (AV.noRow h) ∧ o = (((os ++ [AO.sli e2 []]).map (AO.via (AV.noRow h) h)).set h (.ob q')).set os.length .dead) := by
  intro base w gs tm hr
  have hg := hi.get
  have hgl : h < gs.length := by rw [hr.hl]; exact (List.getElem?_eq_some_iff.1 hs).1
  obtain ⟨gh, hgh⟩ : ∃ x, gs[h]? = some x := ⟨_, List.getElem?_eq_getElem hgl⟩
  have hxv := hr.ev x
  rw [hx] at hxv
  generalize hu : Act.eval ⟨tm, []⟩ x = u at hxv
  cases hxv with
  | ro hcl =>
  obtain ⟨c1, c2, c3, rfl, hu1, hu2, hu3⟩ := hcl
  have kp : Keeps (okOf gs os) (okOf [gh] [.ob q]) w w := by
    intro b hb _
    refine ⟨fun i y z hy hz hl hm => ?_, rfl⟩
    match i, hy, hz with
    | 0, hy, hz => simp at hy hz; subst hy; exact hb h _ _ hgh hs trivial hm
    | i + 1, hy, hz => simp at hy
  refine ⟨f, _, run_callk hc.1 x xs ats _ _ hu w, hc.leaves e2 hs hr hgh (by have := hg.1; simp at this ⊢; exact this) fun i => ?_⟩
  have hlen : xs.length = args.length := by simpa using hg.1
  rcases Nat.lt_or_ge i xs.length with hil | hil
  · have h1 := hg.2 i
    have e1 : (xs.map (AV.ev env)).getD i .any = AV.ev env xs[i] := by
      simp [List.getD_eq_getElem?_getD, hil]
    have e2 : ((xs.map (Act.eval ⟨tm, []⟩)).toArray ++ #[c1, c2, c3]).getD i undef = Act.eval ⟨tm, []⟩ xs[i] := by
      rw [Array.getD_eq_getD_getElem?, Array.getElem?_append_left (by simpa using hil)]
      simp [hil]
    have e3 : (args ++ [AV.ro (bxP [.val V] 0), .ro (bxP avs 0), .ro (mkR f V avs)]).getD i .any = args.getD i .any := by
      simp only [List.getD_eq_getElem?_getD]
      rw [List.getElem?_append_left (by omega)]
    rw [e1] at h1
    rw [e2, e3]
    exact h1.rv hs hr hgh (hr.ev _)
  · have e2 : ((xs.map (Act.eval ⟨tm, []⟩)).toArray ++ #[c1, c2, c3]).getD i undef = (#[c1, c2, c3] : Array Value).getD (i - xs.length) undef := by
      simp only [Array.getD_eq_getD_getElem?, Array.getElem?_append]
      rw [if_neg (by simp; omega)]
      simp
    have e3 : (args ++ [AV.ro (bxP [.val V] 0), .ro (bxP avs 0), .ro (mkR f V avs)]).getD i .any = [AV.ro (bxP [.val V] 0), .ro (bxP avs 0), .ro (mkR f V avs)].getD (i - xs.length) .any := by
      simp only [List.getD_eq_getElem?_getD]
      rw [List.getElem?_append_right (by omega), hlen]
    rw [e2, e3]
    match i - xs.length with
    | 0 => exact .ro ((bxP [.val V] 0).up kp hu1)
    | 1 => exact .ro ((bxP avs 0).up kp hu2)
    | 2 => exact .ro ((mkR f V avs).up kp hu3)
    | i + 3 => exact .any _
/-- The closure goes into its own box, which nothing writes to from here on. -/
theorem l_stmk {t : TypeId} [ht : TCell P t] {k m B : Nat} {T : TypeId} {u0 V0 : Value} {y : Operand} {f : FuncId} {V : Value} {avs : List AV} (hk : env.fd k = some (.optr m 0)) (hs : os[m]? = some (.ob (pinOb (cellOb T u0) B V0))) (hy : AV.ev env y = .ro (clP f V avs B)) :
    LOp P ⟨d, .store t (.tmp k) y, ty, pos, af, g⟩ env os .any (env.up k (.ro (mkR f V avs))) (os.set m .dead) := by
  intro base w gs tm hr
  have hbk : RV w (okOf gs os) gs (tm.getD k undef) (.optr m 0) := by
    have := hr.he k
    rw [Env.lk_of hk] at this
    exact this
  have hyv := hr.ev y
  rw [hy] at hyv
  generalize hu : Act.eval ⟨tm, []⟩ y = u at hyv
  cases hyv with
  | ro hcl =>
  generalize hv : tm.getD k undef = v at hbk
  cases hbk with
  | @optr _ _ gh hg =>
    obtain ⟨⟨a1, a2, a3, a4⟩, p1, p2⟩ := hr.ho _ _ _ hg hs
    have o1 : u.oneCell' = true ∧ u.cells = #[u] := by
      obtain ⟨c1, c2, rfl, _⟩ := hcl
      exact ⟨rfl, rfl⟩
    have hcell : w.cell? ⟨gh.b, 0, none⟩ = some u0 := by rw [cell_of_row w _ 0 _ T (0, 0) a1]; rfl
    have hother : ∀ c, c < w.heap.size → c ∉ gh.bl → (w.setCell ⟨gh.b, 0, none⟩ u).heap[c]? = w.heap[c]? := fun c hc hcb => heap_setCell_other w ⟨gh.b, 0, none⟩ c u (fun e' => hcb (by rw [a3]; simpa using e'))
    have hnew : (w.setCell ⟨gh.b, 0, none⟩ u).heap[gh.b]? = some (.cells #[u] T (0, 0)) := by rw [heap_setCell_same w gh.b 0 #[u0] T u a1]; rfl
    have hr1 : Rel base (w.setCell ⟨gh.b, 0, none⟩ u) gs env (os.set m (.ob (pinOb (cellOb T u) B V0))) tm := hr.upd hg hs trivial _ trivial hother (by simp) fun kp => ⟨⟨hnew, a2, a3, a4⟩, p1, p2⟩
    refine ⟨undef, w.setCell ⟨gh.b, 0, none⟩ u, gs, .inr ⟨?_, rfl⟩, ?_, .any _, (Below.refl _ _).setCell (p := ⟨gh.b, 0, none⟩) a2 _⟩
    · have := run_store_cell (P := P) (t := t) (a := ⟨gh.b, 0, none⟩) hcell (frozen_of_row w _ 0 _ T a1) (v := u) o1.1 o1.2
      have hv' : Act.eval ⟨tm, []⟩ (.tmp k) = .pointer (some ⟨gh.b, 0, none⟩) := hv
      simp only [execOp, hv', hu, Sem.run_bind, this, Result.andThen_ok, Sem.run_pure]
    · have oget : ∀ {i : Nat} {y : AO}, (os.set m .dead)[i]? = some y → y ≠ .dead → i ≠ m ∧ os[i]? = some y := by
        intro i y hy hny
        rw [List.getElem?_set] at hy
        split at hy
        · split at hy
          · cases hy; exact absurd rfl hny
          · cases hy
        · rename_i hne; exact ⟨fun e => hne e.symm, hy⟩
      have oget1 : ∀ {i : Nat} {y : AO}, (os.set m .dead)[i]? = some y → y ≠ .dead → i ≠ m ∧ (os.set m (.ob (pinOb (cellOb T u) B V0)))[i]? = some y := by
        intro i y hy hny
        obtain ⟨h1, h2⟩ := oget hy hny
        refine ⟨h1, ?_⟩
        rw [List.getElem?_set, if_neg (fun e => h1 e.symm)]; exact h2
      have kp0 : Keeps (okOf gs os) (okOf gs (os.set m .dead)) w (w.setCell ⟨gh.b, 0, none⟩ u) := by
        intro c hc hlt
        refine ⟨fun i x y hx hy hl hm => ?_, hother c hlt fun hcb => hc m _ _ hg hs trivial hcb⟩
        exact hc i x y hx (oget hy hl.ne).2 hl hm
      have kp : Keeps (okOf gs (os.set m (.ob (pinOb (cellOb T u) B V0)))) (okOf gs (os.set m .dead)) (w.setCell ⟨gh.b, 0, none⟩ u) (w.setCell ⟨gh.b, 0, none⟩ u) := by
        intro c hc _
        refine ⟨fun i x y hx hy hl hm => ?_, rfl⟩
        exact hc i x y hx (oget1 hy hl.ne).2 hl hm
      have hok : okOf gs (os.set m .dead) gh.b := by
        intro i x y hx hy hl hm
        obtain ⟨h1, h2⟩ := oget hy hl.ne
        exact hr.hd i m x gh y _ h1 hx hg h2 hs hl.ne (by simp) gh.b hm (by rw [a3]; simp)
      have hptr : RV (w.setCell ⟨gh.b, 0, none⟩ u) (okOf gs (os.set m .dead)) gs (.pointer (some ⟨gh.b, 0, none⟩)) (.ro (mkR f V avs)) :=
        .ro ⟨gh.b, T, u, rfl, hok, hnew, (show (clP f V avs gh.b) = clP f V avs B by rw [p1]) ▸ (clP f V avs B).up kp0 hcl⟩
      refine ⟨hr1.hb, by rw [List.length_set]; exact hr.hl, hr1.hs, fun i => ?_, ?_, ?_, ?_⟩
      · rw [Env.lk_up]
        split
        · rename_i h1; rw [h1.1, hv]; exact hptr
        · exact (hr1.he i).mono kp fun _ _ e => e
      · intro i x y hx hy
        by_cases hd : y = .dead
        · subst hd; trivial
        obtain ⟨h1, h2⟩ := oget1 hy hd
        exact (hr1.ho i x y hx h2).mono kp (fun _ _ e => e) fun _ _ _ => rfl
      · intro i j x y o1 o2 hij hx hy ho1 ho2 hn1 hn2
        exact hr1.hd i j x y o1 o2 hij hx hy (oget1 ho1 hn1).2 (oget1 ho2 hn2).2 hn1 hn2
      · intro i x y hx hy hny
        exact hr1.hn i x y hx (oget1 hy hny).2 hny
end
theorem Ret1.slb {os : List AO} {h : Nat} {e : TypeId} {bs : List Bool} (hs : os[h]? = some (.slr e (bL bs))) : Ret1 os (.own h) (.own 0) [.slr e (bL bs)] := fun base w gs env tm hr u hu => by
  cases hu with
  | @own _ g hg =>
    refine ⟨[g], .one ?_ fun b hb => hr.hn _ _ _ hg hs (by simp) b hb, .own rfl⟩
    obtain ⟨vs, a1, a2, a3, a4⟩ := hr.ho _ _ _ hg hs
    refine ⟨vs, a1, a2, fun i => ?_, a4⟩
    have := a3 i
    by_cases hi : i < bs.length
    · have e1 : (bL bs).getD i .any = .b (bs.getD i false) := by rw [List.getD_eq_getElem?_getD, bL_get hi]; rfl
      rw [e1] at this ⊢
      generalize vs.getD i undef = z at this ⊢
      cases this; exact .val _
    · have e1 : (bL bs).getD i .any = .any := by rw [List.getD_eq_getElem?_getD, List.getElem?_eq_none (by rw [bL_len]; omega)]; rfl
      rw [e1]; exact .any _
section
variable {P : Program} {env : Env} {os : List AO} {l rest : List Oper} {K : APost}
/-- An own slice of truth values gets a name for its place. -/
theorem AOps.pinB (h : Nat) {e : TypeId} {bs : List Bool} (hs : os[h]? = some (.slr e (bL bs))) {n : Nat} (hbn : bs.length = n) (hn : 0 < n) (h' : ∀ B c, AOps P .seq l rest K env (os.set h (.ob (pinOb (blOb e bs) B (.slice (some ⟨B, 0, none⟩) n c))))) : AOps P .seq l rest K env os := by
  intro base w0 w gs tm hr hb X Rt
  have hgl : h < gs.length := by rw [hr.hl]; exact (List.getElem?_eq_some_iff.1 hs).1
  obtain ⟨gh, hg⟩ : ∃ x, gs[h]? = some x := ⟨_, List.getElem?_eq_getElem hgl⟩
  obtain ⟨vs, a1, a2, a3, a4⟩ := hr.ho _ _ _ hg hs
  rw [bL_len] at a2
  have hvs := bl_vals a2 a3
  subst hvs
  subst hbn
  obtain ⟨bk, cap, e1, e2, _, _⟩ := own_slice a1 (i := 0) (by simpa using hn)
  have eb := a4.eq e2
  rw [List.length_map] at a1 e1
  refine h' gh.b cap base w0 w gs tm ?_ hb X Rt
  exact hr.upd hg hs trivial _ trivial (fun _ _ _ => rfl) (Nat.le_refl _) fun _ => ⟨⟨a1, a4⟩, rfl, by rw [e1, eb]⟩
/-- The slice that a box holds is told by its place. -/
theorem AOps.nameC (b h : Nat) {T : TypeId} {q : Ob} {B : Nat} {V : Value} (hs : os[b]? = some (.bx T [.own h])) (hq : os[h]? = some (.ob q)) (hp : Pinned q B V) (h' : AOps P .seq l rest K env (os.set b (.bx T [.val V]))) : AOps P .seq l rest K env os := by
  intro base w0 w gs tm hr hb X Rt
  have hgl : b < gs.length := by rw [hr.hl]; exact (List.getElem?_eq_some_iff.1 hs).1
  obtain ⟨gb, hg⟩ : ∃ x, gs[b]? = some x := ⟨_, List.getElem?_eq_getElem hgl⟩
  obtain ⟨cs, a1, a2, a3, a4, a5, a6, a7⟩ := hr.ho _ _ _ hg hs
  refine h' base w0 w gs tm ?_ hb X Rt
  refine hr.upd hg hs trivial _ trivial (fun _ _ _ => rfl) (Nat.le_refl _) fun _ => ⟨cs, a1, a2, a3, a4, a5, a6, fun i => ?_⟩
  match i with
  | 0 =>
    have h0 := a7 0
    simp only [List.getD_cons_zero] at h0 ⊢
    generalize cs.getD 0 undef = u at h0
    cases h0 with
    | own hgh =>
      have := (hp _ _ _ (hr.ho _ _ _ hgh hq)).2
      rw [this]; exact .val _
  | i + 1 => exact .any _
/-- A slot with the slice. -/
theorem AOps.unname (k h : Nat) {q : Ob} {B : Nat} {V : Value} (hk : env.fd k = some (.val V)) (hq : os[h]? = some (.ob q)) (hp : Pinned q B V) (h' : AOps P .seq l rest K (env.up k (.own h)) os) : AOps P .seq l rest K env os := by
  intro base w0 w gs tm hr hb X Rt
  have hgl : h < gs.length := by rw [hr.hl]; exact (List.getElem?_eq_some_iff.1 hq).1
  obtain ⟨gh, hg⟩ : ∃ x, gs[h]? = some x := ⟨_, List.getElem?_eq_getElem hgl⟩
  refine h' base w0 w gs tm ?_ hb X Rt
  have hv : tm.getD k undef = V := by
    have := hr.he k
    rw [Env.lk_of hk] at this
    generalize tm.getD k undef = u at this
    cases this
    rfl
  refine ⟨hr.hb, hr.hl, hr.hs, fun i => ?_, hr.ho, hr.hd, hr.hn⟩
  rw [Env.lk_up]
  split
  · rename_i h1
    rw [h1.1, hv, ← (hp _ _ _ (hr.ho _ _ _ hg hq)).2]
    exact .own hg
  · exact hr.he i
theorem AOps.unpinB (h : Nat) {e : TypeId} {bs : List Bool} {B : Nat} {V : Value} (hs : os[h]? = some (.ob (pinOb (blOb e bs) B V))) (h' : AOps P .seq l rest K env (os.set h (.slr e (bL bs)))) : AOps P .seq l rest K env os := by
  intro base w0 w gs tm hr hb X Rt
  have hgl : h < gs.length := by rw [hr.hl]; exact (List.getElem?_eq_some_iff.1 hs).1
  obtain ⟨gh, hg⟩ : ∃ x, gs[h]? = some x := ⟨_, List.getElem?_eq_getElem hgl⟩
  obtain ⟨⟨a1, a4⟩, _, _⟩ := hr.ho _ _ _ hg hs
  refine h' base w0 w gs tm ?_ hb X Rt
  refine hr.upd hg hs trivial _ trivial (fun _ _ _ => rfl) (Nat.le_refl _) fun _ => ⟨bs.map Value.bool, by rw [List.length_map]; exact a1, by simp [bL_len], fun i => ?_, a4⟩
  by_cases hi : i < bs.length
  · have e1 : (bs.map Value.bool).getD i undef = .bool (bs.getD i false) := by simp [List.getD_eq_getElem?_getD, hi]
    have e2 : (bL bs).getD i .any = .b (bs.getD i false) := by rw [List.getD_eq_getElem?_getD, bL_get hi]; rfl
    rw [e1, e2]; exact .val _
  · have e2 : (bL bs).getD i .any = .any := by
      rw [List.getD_eq_getElem?_getD, List.getElem?_eq_none (by rw [bL_len]; omega)]; rfl
    rw [e2]; exact .any _
/-- A box of one known value gets a name for its place. -/
theorem AOps.pinC (m : Nat) {T : TypeId} {u : Value} (hs : os[m]? = some (.bx T [.val u])) (h' : ∀ B V, AOps P .seq l rest K env (os.set m (.ob (pinOb (cellOb T u) B V)))) : AOps P .seq l rest K env os := by
  intro base w0 w gs tm hr hb X Rt
  have hgl : m < gs.length := by rw [hr.hl]; exact (List.getElem?_eq_some_iff.1 hs).1
  obtain ⟨gm, hg⟩ : ∃ x, gs[m]? = some x := ⟨_, List.getElem?_eq_getElem hgl⟩
  obtain ⟨cs, a1, a2, a3, a4, a5, a6, a7⟩ := hr.ho _ _ _ hg hs
  match cs, a5 with
  | [c0], _ =>
  have h0 := a7 0
  simp only [List.getD_cons_zero] at h0
  cases h0
  refine h' gm.b gm.v base w0 w gs tm ?_ hb X Rt
  exact hr.upd hg hs trivial _ trivial (fun _ _ _ => rfl) (Nat.le_refl _) fun _ => ⟨⟨a1, a2, a3, a4⟩, rfl, rfl⟩
end
section
variable {P : Program} {env : Env} {os : List AO} {d : Tmp} {ty : TypeId} {pos : String} {af : Array Edge} {g : Option (Nat × Bool)} {l rest : List Oper} {K : APost} {q : Md}
theorem w_fafz {t : TypeId} {f off : Nat} [TField P t f off] {x : Operand} {avs : List AV} (hw : wantedA l env ⟨some d, .fieldAddr t x f, ty, pos, af, g⟩ = some true) (hx : evo env x = some (.ro (bxP avs 0)))
    (h' : AOps P q l rest K (env.up d (.ro (bxP avs off))) os) : AOps P q l (⟨some d, .fieldAddr t x f, ty, pos, af, g⟩ :: rest) K env os := AOps.qo hw (q_fafz (ev_of hx)) h'
theorem w_idxV {t e : TypeId} [TSlice P t e] [TCell P e] {x y : Operand} {B n c : Nat} {i : Int} (hw : wantedA l env ⟨some d, .indexAddr t x y, ty, pos, af, g⟩ = some true) (hx : evo env x = some (.val (.slice (some ⟨B, 0, none⟩) n c))) (hy : evo env y = some (.i i)) (h0 : 0 ≤ i) (h1 : i < n)
    (h' : AOps P q l rest K (env.up d (.val (.pointer (some ⟨B, i.toNat, none⟩)))) os) : AOps P q l (⟨some d, .indexAddr t x y, ty, pos, af, g⟩ :: rest) K env os := AOps.qo hw (q_idxV (ev_of hx) (ev_of hy) h0 h1) h'
theorem w_ldmk {t : TypeId} [TCell P t] {x : Operand} {f : FuncId} {V : Value} {avs : List AV} (hw : wantedA l env ⟨some d, .load t x, ty, pos, af, g⟩ = some true) (hx : evo env x = some (.ro (mkR f V avs))) (hq : q.wl = false)
    (h' : AOps P q l rest K (env.up d (.ro (clR3 f V avs))) os) : AOps P q l (⟨some d, .load t x, ty, pos, af, g⟩ :: rest) K env os := AOps.qo hw (by rw [hq]; exact q_ldmk (ev_of hx)) h'
theorem w_stV {t : TypeId} [TCell P t] {x y : Operand} (h : Nat) {B B' n c i : Nat} {V' : Value} {e : TypeId} {bs : List Bool} {b : Bool} (hx : evo env x = some (.val (.pointer (some ⟨B, i, none⟩)))) (hs : os[h]? = some (.ob (pinOb (pinOb (blOb e bs) B (.slice (some ⟨B, 0, none⟩) n c)) B' V'))) (hy : evo env y = some (.b b)) (hi : i < bs.length)
    (h' : AOps P .seq l rest K env (os.set h (.ob (pinOb (pinOb (blOb e (bs.set i b)) B (.slice (some ⟨B, 0, none⟩) n c)) B' V')))) : AOps P .seq l (⟨none, .store t x y, ty, pos, af, none⟩ :: rest) K env os := AOps.so (l_stV (ev_of hx) hs hi (ev_of hy)) h'
theorem w_makef3 {f : FuncId} {x y z : Operand} {V V0 : Value} {avs : List AV} {m B : Nat} {qo : Ob} (hp : Pinned qo B V0) (hw : wantedA l env ⟨some d, .makeFunc (.func f) #[] #[x, y, z], ty, pos, af, g⟩ = some true) (hx : evo env x = some (.ro (bxP [.val V] 0))) (hy : evo env y = some (.ro (bxP avs 0))) (hz : evo env z = some (.optr m 0)) (hs : os[m]? = some (.ob qo))
    (h' : AOps P q l rest K (env.up d (.ro (clP f V avs B))) os) : AOps P q l (⟨some d, .makeFunc (.func f) #[] #[x, y, z], ty, pos, af, g⟩ :: rest) K env os := AOps.qo hw (q_makef3 hp (ev_of hx) (ev_of hy) (ev_of hz) hs) h'
theorem w_stmk {t : TypeId} [TCell P t] {k m B : Nat} {T : TypeId} {u0 V0 : Value} {y : Operand} {f : FuncId} {V : Value} {avs : List AV} (hk : env.fd k = some (.optr m 0)) (hs : os[m]? = some (.ob (pinOb (cellOb T u0) B V0))) (hy : evo env y = some (.ro (clP f V avs B)))
    (h' : AOps P .seq l rest K (env.up k (.ro (mkR f V avs))) (os.set m .dead)) : AOps P .seq l (⟨none, .store t (.tmp k) y, ty, pos, af, none⟩ :: rest) K env os := AOps.so (l_stmk hk hs (ev_of hy)) h'
theorem w_callk3 {f : FuncId} {args : List AV} {q q' : Ob} {v : Value} {xs : List Operand} {ats : Array TypeId} (h : Nat) (e2 : TypeId) {m : Nat} {V : Value} {avs : List AV} {x : Operand} (hc : AFnO P f (args ++ [.ro (bxP [.val V] 0), .ro (bxP avs 0), .ro (mkR f V avs)]) q q' v) (hx : evo env x = some (.ro (clR3 f V avs))) (hs : os[h]? = some (.ob q)) (hm : os.length = m) (hi : ImmOs os h (xs.map (AV.ev env)) args)
    (h' : AOps P .seq l rest K ((env.mp (AV.noRow h)).up d (.val v)) ((((os ++ [AO.sli e2 []]).map (AO.via (AV.noRow h) h)).set h (.ob q')).set m .dead)) :
    AOps P .seq l (⟨some d, .call { callee := .value x, args := xs.toArray, argTypes := ats }, ty, pos, af, none⟩ :: rest) K env os := by
  subst hm
  exact AOps.ca (c_callk3 e2 hc (ev_of hx) hs hi) fun r e o ⟨h1, h2, h3⟩ => by subst h1; subst h2; subst h3; exact h'
end
end Go.Proofs.Ytlkhcelodcneiaa
