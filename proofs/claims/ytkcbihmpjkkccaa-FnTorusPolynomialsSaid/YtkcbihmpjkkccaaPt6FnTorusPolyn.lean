/-
  Parts of the proof, one behind the other: contracts of functions and plain laws. No condition.
-/
import Derived.Laws.Bits64b
import Derived.Test.YtkcbihmpjkkccaaPt5FnTorusPolyn
/-
  Zeta lists of branches: the law. No condition.
-/
namespace Go.Proofs.Ytkcbihmpjkkccaa
open Go Go.RowKit
attribute [local irreducible] AWp AOps ResIs Ret1 QOp LOp COp AFnV AFn Imms LeE LeO
set_option maxHeartbeats 1000000
set_option linter.unusedSimpArgs false
set_option linter.unusedVariables false

set_option maxHeartbeats 16000000 in
theorem implZetaOfBranch_c (xs : List Int) : AFn Try.prog 23 [.agg [.ints xs]] (IsSSC 26 2 (zoL xs) (zoE xs)) := by
  (refine AFn.start Try.func23 Try.ntmps23 rfl (by kernel_rfl) fun hk => ?_; simp only [Env.start, enumF, List.length_cons, List.length_nil, Nat.reduceAdd, Nat.reduceSub, List.cons_append, List.nil_append])
  have c1 := implIsBranch_c xs
  cases h1 : isBr xs with
  | false =>
    rw [h1] at c1
    repeat' (first | (apply AOps.nil; try simp only [List.nil_append, List.cons_append, List.set_cons_zero, List.set_cons_succ, List.length_cons, List.length_nil, Nat.reduceAdd, AV.sh, AV.sh1, AV.sh0, AO.sh, List.map_cons, List.map_nil, Nat.zero_add, Nat.add_zero, setAll]) | (apply w_assign; exact rfl; exact rfl) | apply AWp.seq | apply AWp.region | (apply AWp.condT; exact rfl) | apply AWp.ret | (apply w_call (c1); exact rfl; exact rfl; focus ((repeat (first | exact im_nil | refine im_cons rfl (im_agg1 (.ints _)) ?_)); done)) | ((first | apply w_not | apply w_boxa); iterate 2 exact rfl) | (apply w_ldst; iterate 5 exact rfl))
    all_goals exact ⟨_, _, _, .a2 Try.results23 rfl rfl, .tup2 (.nils 26 2), by simp [zoE, h1], by simp [zoL, h1]⟩
  | true =>
    rw [h1] at c1
    have hE : zoE xs = 0 := by simp [zoE, h1]
    have hL : zoL xs = zbL xs := by simp [zoL, h1]
    have h := brF h1
    have hl := h.len
    have hp := h.pos
    have hr := ratios_c xs h
    have hd := divisors_c xs h.sm (by omega)
    have hw := zetaNumbers_c xs h
    have el1 := nRs_len xs xs.length
    have el2 := dvs_len xs xs.length
    have el3 := wsL_len xs xs.length
    have t0 := h.tm 0 hp
    have x0 := h.x0
    simp only [Int.natCast_zero] at t0
    have ha0 := AFnO.ofP (add_c 0 [] zi_nil (by omega) (geti xs 0) 1 (by omega) (by omega))
    rw [putZ_nil] at ha0
    simp only [List.map_cons, List.map_nil] at ha0
    repeat' (first | (apply AOps.nil; try simp only [List.nil_append, List.cons_append, List.set_cons_zero, List.set_cons_succ, List.length_cons, List.length_nil, Nat.reduceAdd, AV.sh, AV.sh1, AV.sh0, AO.sh, List.map_cons, List.map_nil, Nat.zero_add, Nat.add_zero, setAll]) | (apply w_assign; exact rfl; exact rfl) | apply AWp.seq | apply AWp.region | (apply AWp.condF; exact rfl) | apply AWp.skip | (apply w_call (c1); exact rfl; exact rfl; focus ((repeat (first | exact im_nil | refine im_cons rfl (im_agg1 (.ints _)) ?_)); done)) | ((first | apply w_not | apply w_boxa); iterate 2 exact rfl) | (apply w_ldst; iterate 5 exact rfl))
    refine AWp.regionA (by kernel_rfl) (envC := ⟨74, [(1, .optr 0 0), (4, .own 1), (5, .own 2), (6, .own 3)]⟩) (osC := [.bx 34 [.ints xs], .sli 2 (nRs xs xs.length), .sli 2 (dvs xs xs.length), .sli 2 (wsL xs xs.length)]) rfl rfl ?_ ?_
    · repeat' (first | (apply AOps.nil; try simp only [List.nil_append, List.cons_append, List.set_cons_zero, List.set_cons_succ, List.length_cons, List.length_nil, Nat.reduceAdd, AV.sh, AV.sh1, AV.sh0, AO.sh, List.map_cons, List.map_nil, Nat.zero_add, Nat.add_zero, setAll]) | (apply w_assign; exact rfl; exact rfl) | (apply w_callm (hr); (focus ((repeat (first | exact im_nil | refine im_cons rfl (im_agg1 (.ints _)) ?_)); done)); rintro r os0 ⟨rfl, rfl⟩; try simp only [List.nil_append, List.cons_append, List.set_cons_zero, List.set_cons_succ, List.length_cons, List.length_nil, Nat.reduceAdd, AV.sh, AV.sh1, AV.sh0, AO.sh, List.map_cons, List.map_nil, Nat.zero_add, Nat.add_zero, setAll]) | (apply w_callm (hd); (focus ((repeat (first | exact im_nil | refine im_cons rfl (.ints _) ?_)); done)); rintro r os0 ⟨rfl, rfl⟩; try simp only [List.nil_append, List.cons_append, List.set_cons_zero, List.set_cons_succ, List.length_cons, List.length_nil, Nat.reduceAdd, AV.sh, AV.sh1, AV.sh0, AO.sh, List.map_cons, List.map_nil, Nat.zero_add, Nat.add_zero, setAll]) | (apply w_callm (hw); (focus ((repeat (first | exact im_nil | refine im_cons rfl (im_agg1 (.ints _)) ?_)); done)); rintro r os0 ⟨rfl, rfl⟩; try simp only [List.nil_append, List.cons_append, List.set_cons_zero, List.set_cons_succ, List.length_cons, List.length_nil, Nat.reduceAdd, AV.sh, AV.sh1, AV.sh0, AO.sh, List.map_cons, List.map_nil, Nat.zero_add, Nat.add_zero, setAll]) | ((first | apply w_ld | apply w_fa); iterate 3 exact rfl) | (apply w_ldb; iterate 5 exact rfl) | (apply w_ldst; iterate 5 exact rfl) | apply AllOf.nil | (apply AllOf.cons; exact rfl) | (apply AAny.take; exact rfl; exact rfl; kernel_rfl; kernel_rfl) | (apply AAny.all; exact rfl) | (apply AAny.done; exact rfl))
      all_goals (apply Or.inl; refine ⟨lee rfl ?_, ?_, rfl, rfl⟩; (focus ((repeat (first | exact le_nil | refine le_eq rfl rfl ?_)); done)); (focus ((repeat (first | exact lo_nil | refine lo_eq rfl ?_)); done)))
    repeat' (first | (apply AOps.nil; try simp only [List.nil_append, List.cons_append, List.set_cons_zero, List.set_cons_succ, List.length_cons, List.length_nil, Nat.reduceAdd, AV.sh, AV.sh1, AV.sh0, AO.sh, List.map_cons, List.map_nil, Nat.zero_add, Nat.add_zero, setAll]) | apply AWp.seq | apply AWp.region | ((first | apply w_idx | apply w_ld | apply w_fa); iterate 3 exact rfl) | ((apply w_build0); iterate 2 exact rfl) | (apply w_ldb; iterate 5 exact rfl) | (apply w_alst; iterate 2 exact rfl) | (apply w_stst; iterate 5 exact rfl) | omega)
    refine AOps.turns (Turns.joinNil (h := 4) 26 2 rfl) ?_
    try simp only [List.nil_append, List.cons_append, List.set_cons_zero, List.set_cons_succ, List.length_cons, List.length_nil, Nat.reduceAdd, AV.sh, AV.sh1, AV.sh0, AO.sh, List.map_cons, List.map_nil, Nat.zero_add, Nat.add_zero, setAll]
    repeat' (first | (apply AOps.nil; try simp only [List.nil_append, List.cons_append, List.set_cons_zero, List.set_cons_succ, List.length_cons, List.length_nil, Nat.reduceAdd, AV.sh, AV.sh1, AV.sh0, AO.sh, List.map_cons, List.map_nil, Nat.zero_add, Nat.add_zero, setAll]) | (apply w_assign; exact rfl; exact rfl) | apply AWp.seq | apply AWp.region | apply AWp.block | (apply w_callo 4 2 (ha0); exact rfl; exact rfl; (focus ((repeat (first | exact imo_nil | refine imo_ptr rfl ?_ | refine imo_cons rfl (.val _) ?_)); done)); simp only [Env.mp, List.map_cons, List.map_nil, List.set_cons_zero, List.set_cons_succ, AV.kill, AV.kill1, AO.kill, AV.noRow, AV.noRow1, AO.via, reduceIte, Nat.reduceEqDiff, Nat.reduceLT, Env.up, Nat.zero_ne_one, Nat.one_ne_zero, Nat.reduceAdd, List.cons_append, List.nil_append]))
    refine AWp.loop (ι := Nat) (fun i => ⟨74, [(1, .optr 0 0), (4, .own 1), (5, .own 2), (6, .own 3), (7, .optr 4 0), (8, .i i)]⟩) (fun i => [.bx 34 [.ints xs], .sli 2 (nRs xs xs.length), .sli 2 (dvs xs xs.length), .sli 2 (wsL xs xs.length), .ob (cntOb 60 26 2 (zbF xs (i - 1)))]) (fun i => 1 ≤ i ∧ i ≤ xs.length) (fun i => xs.length - i) 1 ⟨by omega, by omega⟩ ⟨lee rfl (by (repeat (first | exact le_nil | refine le_eq rfl rfl ?_))), by (repeat (first | exact lo_nil | refine lo_eq rfl ?_)), rfl, rfl⟩ ?_
    rintro i ⟨i1, i2⟩
    have hzi := zi_zb h (i - 1) (by omega)
    by_cases hi : i < xs.length
    · have r1 : geti (nRs xs xs.length) (((i : Int).toNat : Nat) : Int) = nR xs i := nRs_get xs _ i hi
      have r2 : geti (wsL xs xs.length) (((i : Int).toNat : Nat) : Int) = wZ xs i := wsL_get xs _ i hi
      have r3 : geti (dvs xs xs.length) (((i : Int).toNat : Nat) : Int) = gd xs (i + 1) := dvs_at xs i hi
      have bd := wZ_bd h i1 hi
      rw [← r1, ← r2, ← r3] at bd
      have ha1 := AFnO.ofP (add_c _ _ hzi (by omega) (geti (wsL xs xs.length) (((i : Int).toNat : Nat) : Int) * geti (dvs xs xs.length) (((i : Int).toNat : Nat) : Int)) 1 (by omega) (by omega))
      simp only [List.map_cons, List.map_nil] at ha1
      have hz1 := zi_put hzi (m := geti (wsL xs xs.length) (((i : Int).toNat : Nat) : Int) * geti (dvs xs xs.length) (((i : Int).toNat : Nat) : Int)) (e := 1) (by omega) (by omega)
      have ha2 := AFnO.ofP (add_c _ _ hz1 (by omega) (geti (nRs xs xs.length) (((i : Int).toNat : Nat) : Int) * geti (wsL xs xs.length) (((i : Int).toNat : Nat) : Int) * geti (dvs xs xs.length) (((i : Int).toNat : Nat) : Int)) (-1) (by omega) (by omega))
      simp only [List.map_cons, List.map_nil] at ha2
      have hs : putZ (putZ (zbF xs (i - 1)) (geti (wsL xs xs.length) (((i : Int).toNat : Nat) : Int) * geti (dvs xs xs.length) (((i : Int).toNat : Nat) : Int)) 1) (geti (nRs xs xs.length) (((i : Int).toNat : Nat) : Int) * geti (wsL xs xs.length) (((i : Int).toNat : Nat) : Int) * geti (dvs xs xs.length) (((i : Int).toNat : Nat) : Int)) (-1) = zbF xs i := by
        rw [r1, r2, r3]
        obtain ⟨k, rfl⟩ : ∃ k, i = k + 1 := ⟨i - 1, by omega⟩
        rfl
      repeat' (first | (apply AOps.nil; try simp only [List.nil_append, List.cons_append, List.set_cons_zero, List.set_cons_succ, List.length_cons, List.length_nil, Nat.reduceAdd, AV.sh, AV.sh1, AV.sh0, AO.sh, List.map_cons, List.map_nil, Nat.zero_add, Nat.add_zero, setAll]) | (apply w_move; exact rfl; exact rfl) | apply AWp.seq | apply AWp.region | ((apply AWp.condP; exact rfl) <;> intro h) | apply AWp.block | apply AWp.exit | apply AWp.skip | (apply w_len; exact rfl; exact rfl; first | exact .ints _ | exact .intss _ | exact .sli rfl | exact .sls rfl | exact .slr rfl | exact .orow rfl | exact .nil) | omega | ((apply w_lss); iterate 3 exact rfl))
      apply AWp.regionQ
      · kernel_rfl
      · kernel_rfl
      repeat' (first | (apply AOps.nil; try simp only [List.nil_append, List.cons_append, List.set_cons_zero, List.set_cons_succ, List.length_cons, List.length_nil, Nat.reduceAdd, AV.sh, AV.sh1, AV.sh0, AO.sh, List.map_cons, List.map_nil, Nat.zero_add, Nat.add_zero, setAll]) | (apply w_move; exact rfl; exact rfl) | (apply w_assign; exact rfl; exact rfl) | apply AWp.seq | apply AWp.region | ((apply AWp.condP; exact rfl) <;> intro h) | apply AWp.ret | apply AWp.skip | omega | ((first | apply w_gtr | apply w_mul | apply w_idx | apply w_ld); iterate 3 exact rfl) | (apply w_idxo; exact rfl; exact rfl; (exact .sli rfl); exact rfl) | (apply w_ldo; iterate 4 exact rfl) | (apply inI_of <;> omega))
      refine AWp.regionA (by kernel_rfl) (envC := ⟨74, [(1, .optr 0 0), (4, .own 1), (5, .own 2), (6, .own 3), (7, .optr 4 0), (8, .i i)]⟩) (osC := [.bx 34 [.ints xs], .sli 2 (nRs xs xs.length), .sli 2 (dvs xs xs.length), .sli 2 (wsL xs xs.length), .ob (cntOb 60 26 2 (putZ (zbF xs (i - 1)) (geti (wsL xs xs.length) (((i : Int).toNat : Nat) : Int) * geti (dvs xs xs.length) (((i : Int).toNat : Nat) : Int)) 1))]) rfl rfl ?_ ?_
      · repeat' (first | (apply AOps.nil; try simp only [List.nil_append, List.cons_append, List.set_cons_zero, List.set_cons_succ, List.length_cons, List.length_nil, Nat.reduceAdd, AV.sh, AV.sh1, AV.sh0, AO.sh, List.map_cons, List.map_nil, Nat.zero_add, Nat.add_zero, setAll]) | (apply w_move; exact rfl; exact rfl) | (apply w_callo 4 2 (ha1); exact rfl; exact rfl; (focus ((repeat (first | exact imo_nil | refine imo_ptr rfl ?_ | refine imo_cons rfl (.val _) ?_)); done)); simp only [Env.mp, List.map_cons, List.map_nil, List.set_cons_zero, List.set_cons_succ, AV.kill, AV.kill1, AO.kill, AV.noRow, AV.noRow1, AO.via, reduceIte, Nat.reduceEqDiff, Nat.reduceLT, Env.up, Nat.zero_ne_one, Nat.one_ne_zero, Nat.reduceAdd, List.cons_append, List.nil_append]) | omega | ((first | apply w_mul | apply w_idx | apply w_ld); iterate 3 exact rfl) | (apply w_idxo; exact rfl; exact rfl; (exact .sli rfl); exact rfl) | (apply w_ldo; iterate 4 exact rfl) | apply AllOf.nil | (apply AllOf.cons; exact rfl) | (apply AAny.take; exact rfl; exact rfl; kernel_rfl; kernel_rfl) | (apply AAny.all; exact rfl) | (apply AAny.done; exact rfl) | (apply inI_of <;> omega))
        all_goals (apply Or.inl; refine ⟨lee rfl ?_, ?_, rfl, rfl⟩; (focus ((repeat (first | exact le_nil | refine le_eq rfl rfl ?_)); done)); (focus ((repeat (first | exact lo_nil | refine lo_eq rfl ?_)); done)))
      repeat' (apply AOps.nil; try simp only [List.nil_append, List.cons_append, List.set_cons_zero, List.set_cons_succ, List.length_cons, List.length_nil, Nat.reduceAdd, AV.sh, AV.sh1, AV.sh0, AO.sh, List.map_cons, List.map_nil, Nat.zero_add, Nat.add_zero, setAll])
      refine AWp.regionA (by kernel_rfl) (envC := ⟨74, [(1, .optr 0 0), (4, .own 1), (5, .own 2), (6, .own 3), (7, .optr 4 0), (8, .i i)]⟩) (osC := [.bx 34 [.ints xs], .sli 2 (nRs xs xs.length), .sli 2 (dvs xs xs.length), .sli 2 (wsL xs xs.length), .ob (cntOb 60 26 2 (zbF xs i))]) rfl rfl ?_ ?_
      · rw [← hs]
        repeat' (first | (apply AOps.nil; try simp only [List.nil_append, List.cons_append, List.set_cons_zero, List.set_cons_succ, List.length_cons, List.length_nil, Nat.reduceAdd, AV.sh, AV.sh1, AV.sh0, AO.sh, List.map_cons, List.map_nil, Nat.zero_add, Nat.add_zero, setAll]) | (apply w_move; exact rfl; exact rfl) | (apply w_callo 4 2 (ha2); exact rfl; exact rfl; (focus ((repeat (first | exact imo_nil | refine imo_ptr rfl ?_ | refine imo_cons rfl (.val _) ?_)); done)); simp only [Env.mp, List.map_cons, List.map_nil, List.set_cons_zero, List.set_cons_succ, AV.kill, AV.kill1, AO.kill, AV.noRow, AV.noRow1, AO.via, reduceIte, Nat.reduceEqDiff, Nat.reduceLT, Env.up, Nat.zero_ne_one, Nat.one_ne_zero, Nat.reduceAdd, List.cons_append, List.nil_append]) | omega | ((first | apply w_mul | apply w_idx | apply w_ld); iterate 3 exact rfl) | (apply w_idxo; exact rfl; exact rfl; (exact .sli rfl); exact rfl) | (apply w_ldo; iterate 4 exact rfl) | apply AllOf.nil | (apply AllOf.cons; exact rfl) | (apply AAny.take; exact rfl; exact rfl; kernel_rfl; kernel_rfl) | (apply AAny.all; exact rfl) | (apply AAny.done; exact rfl) | (apply inI_of <;> omega))
        all_goals (apply Or.inl; refine ⟨lee rfl ?_, ?_, rfl, rfl⟩; (focus ((repeat (first | exact le_nil | refine le_eq rfl rfl ?_)); done)); (focus ((repeat (first | exact lo_nil | refine lo_eq rfl ?_)); done)))
      repeat' (first | (apply AOps.nil; try simp only [List.nil_append, List.cons_append, List.set_cons_zero, List.set_cons_succ, List.length_cons, List.length_nil, Nat.reduceAdd, AV.sh, AV.sh1, AV.sh0, AO.sh, List.map_cons, List.map_nil, Nat.zero_add, Nat.add_zero, setAll]) | (apply w_move; exact rfl; exact rfl) | (apply w_assign; exact rfl; exact rfl) | apply AWp.region | ((apply w_add); iterate 3 exact rfl) | (apply inI_of <;> omega))
      exact ⟨i + 1, ⟨by omega, by omega⟩, by omega, ⟨lee rfl (by (repeat (first | exact le_nil | refine le_eq rfl rfl ?_))), by (repeat (first | exact lo_nil | refine lo_eq rfl ?_)), rfl, rfl⟩⟩
    · have e : i = xs.length := by omega
      subst e
      have hzc := zeta_c (zbF xs (xs.length - 1)) (fun r hr => (hzi.row r hr).1) (zok_of hzi (by omega)).2 (zb_isZ h)
      repeat' (first | (apply AOps.nil; try simp only [List.nil_append, List.cons_append, List.set_cons_zero, List.set_cons_succ, List.length_cons, List.length_nil, Nat.reduceAdd, AV.sh, AV.sh1, AV.sh0, AO.sh, List.map_cons, List.map_nil, Nat.zero_add, Nat.add_zero, setAll]) | (apply w_move; exact rfl; exact rfl) | (apply w_assign; exact rfl; exact rfl) | apply AWp.seq | apply AWp.region | ((apply AWp.condP; exact rfl) <;> intro h) | apply AWp.block | apply AWp.ret | apply AWp.exit | apply AWp.skip | (apply w_len; exact rfl; exact rfl; first | exact .ints _ | exact .intss _ | exact .sli rfl | exact .sls rfl | exact .slr rfl | exact .orow rfl | exact .nil) | (apply w_callc [4] (hzc); exact rfl; (exact handed1 rfl True.intro); (focus ((repeat (first | exact imu_nil | refine imu_cons rfl (.optr rfl) ?_)); done)); rintro r os0 ⟨rfl, rfl⟩; try simp only [List.nil_append, List.cons_append, List.set_cons_zero, List.set_cons_succ, List.length_cons, List.length_nil, Nat.reduceAdd, AV.sh, AV.sh1, AV.sh0, AO.sh, List.map_cons, List.map_nil, Nat.zero_add, Nat.add_zero, setAll]) | omega | ((first | apply w_lss | apply w_extv); iterate 3 exact rfl) | ((apply w_ext); iterate 3 exact rfl))
      exact ⟨_, _, _, .a2 Try.results23 rfl rfl, .tup2 (.sls rfl), by rw [hE], by rw [hL]; rfl⟩
end Go.Proofs.Ytkcbihmpjkkccaa
/-
  Characteristic polynomials of zeta lists and of branches: the laws. No condition.
-/
namespace Go.Proofs.Ytkcbihmpjkkccaa
open Go Go.RowKit
attribute [local irreducible] AWp AOps ResIs Ret1 QOp LOp COp AFnV AFn Imms LeE LeO
set_option maxHeartbeats 1000000
set_option linter.unusedSimpArgs false
set_option linter.unusedVariables false

/-! ### Branches -/
noncomputable def pbE (xs : List Int) : Int := if isBr xs = true then chE (zoL xs) else 1
noncomputable def pbV (xs : List Int) : List Int := if isBr xs = true then chV (zoL xs) else []
theorem implPolynomialOfBranch_c (xs : List Int) : AFn Try.prog 10 [.agg [.ints xs]] (IsIC 2 (pbV xs) (pbE xs)) := by
  have h := implZetaOfBranch_c xs
  have h2 := implCharacteristic_c (zoL xs)
  (refine AFn.start Try.func10 Try.ntmps10 rfl (by kernel_rfl) fun hk => ?_; simp only [Env.start, enumF, List.length_cons, List.length_nil, Nat.reduceAdd, Nat.reduceSub, List.cons_append, List.nil_append])
  cases hb : isBr xs with
  | true =>
    have hE : zoE xs = 0 := by simp [zoE, hb]
    have pE : pbE xs = chE (zoL xs) := by simp [pbE, hb]
    have pV : pbV xs = chV (zoL xs) := by simp [pbV, hb]
    rw [hE] at h
    repeat' (first
  | (apply AOps.nil; try simp only [List.nil_append, List.cons_append, List.set_cons_zero, List.set_cons_succ, List.length_cons, List.length_nil, Nat.reduceAdd, AV.sh, AV.sh1, AV.sh0, AO.sh, List.map_cons, List.map_nil, Nat.zero_add, Nat.add_zero, setAll])
  | ((apply AOps.splitP; exact rfl; exact rfl) <;> intro h)
  | ((apply AOps.splitN; exact rfl; exact rfl) <;> intro h)
  | (apply w_move; exact rfl; exact rfl)
  | (apply w_assign; exact rfl; exact rfl)
  | apply AWp.seq
  | apply AWp.region
  | ((apply AWp.condP; exact rfl) <;> intro h)
  | ((apply AWp.condN; exact rfl) <;> intro h)
  | (apply AWp.condT; exact rfl)
  | (apply AWp.condF; exact rfl)
  | ((apply AWp.condB; exact rfl) <;> intro h)
  | apply AWp.block
  | apply AWp.ret
  | apply AWp.exit
  | apply AWp.skip
  | (apply AWp.regionQ; kernel_rfl; kernel_rfl)
  | (apply if_pos'; exact rfl)
  | (apply if_neg'; decide)
  | (apply w_skip; exact rfl)
  | (apply w_pickT; exact rfl; exact rfl; exact rfl)
  | (apply w_pickF; exact rfl; exact rfl; exact rfl)
  | (apply w_len; exact rfl; exact rfl; first | exact .ints _ | exact .intss _ | exact .sli rfl | exact .sls rfl | exact .slr rfl | exact .orow rfl | exact .nil)
  | (apply w_callm (h); (focus ((repeat (first | exact im_nil | refine im_cons rfl (.val _) ?_ | refine im_cons rfl (.ints _) ?_ | refine im_cons rfl (.intss _) ?_ | refine im_cons rfl (.sli rfl) ?_ | refine im_cons rfl (.sls rfl) ?_ | refine im_cons rfl (.orow rfl) ?_ | refine im_cons rfl (.osub rfl (by simp; omega)) ?_ | refine im_cons rfl (.nil) ?_ | refine im_cons rfl (.nils) ?_ | refine im_cons rfl (im_agg2 (.val _) (.ints _)) ?_ | refine im_cons rfl (im_agg2 (.val _) (.sli rfl)) ?_ | refine im_cons rfl (im_agg2 (.val _) (.nil)) ?_ | refine im_cons rfl (im_agg2 (.ints _) (.intss _)) ?_ | refine im_cons rfl (im_agg2 (.ints _) (.sls rfl)) ?_ | refine im_cons rfl (im_agg2 (.sli rfl) (.intss _)) ?_ | refine im_cons rfl (im_agg2 (.sli rfl) (.sls rfl)) ?_ | refine im_cons rfl (im_agg1 (.ints _)) ?_ | refine im_cons rfl (im_agg1 (.sli rfl)) ?_ | refine im_cons rfl (im_agg1 (.intss _)) ?_ | refine im_cons rfl (im_agg1 (.sls rfl)) ?_ | refine im_cons rfl (im_agg1 (.nil)) ?_ | refine im_cons rfl (im_agg1 (.nils)) ?_)); done)); rintro r os0 ⟨rfl, rfl⟩; try simp only [List.nil_append, List.cons_append, List.set_cons_zero, List.set_cons_succ, List.length_cons, List.length_nil, Nat.reduceAdd, AV.sh, AV.sh1, AV.sh0, AO.sh, List.map_cons, List.map_nil, Nat.zero_add, Nat.add_zero, setAll])
  | (apply w_callm (h2); (focus ((repeat (first | exact im_nil | refine im_cons rfl (.val _) ?_ | refine im_cons rfl (.ints _) ?_ | refine im_cons rfl (.intss _) ?_ | refine im_cons rfl (.sli rfl) ?_ | refine im_cons rfl (.sls rfl) ?_ | refine im_cons rfl (.orow rfl) ?_ | refine im_cons rfl (.osub rfl (by simp; omega)) ?_ | refine im_cons rfl (.nil) ?_ | refine im_cons rfl (.nils) ?_ | refine im_cons rfl (im_agg2 (.val _) (.ints _)) ?_ | refine im_cons rfl (im_agg2 (.val _) (.sli rfl)) ?_ | refine im_cons rfl (im_agg2 (.val _) (.nil)) ?_ | refine im_cons rfl (im_agg2 (.ints _) (.intss _)) ?_ | refine im_cons rfl (im_agg2 (.ints _) (.sls rfl)) ?_ | refine im_cons rfl (im_agg2 (.sli rfl) (.intss _)) ?_ | refine im_cons rfl (im_agg2 (.sli rfl) (.sls rfl)) ?_ | refine im_cons rfl (im_agg1 (.ints _)) ?_ | refine im_cons rfl (im_agg1 (.sli rfl)) ?_ | refine im_cons rfl (im_agg1 (.intss _)) ?_ | refine im_cons rfl (im_agg1 (.sls rfl)) ?_ | refine im_cons rfl (im_agg1 (.nil)) ?_ | refine im_cons rfl (im_agg1 (.nils)) ?_)); done)); rintro r os0 ⟨rfl, rfl⟩; try simp only [List.nil_append, List.cons_append, List.set_cons_zero, List.set_cons_succ, List.length_cons, List.length_nil, Nat.reduceAdd, AV.sh, AV.sh1, AV.sh0, AO.sh, List.map_cons, List.map_nil, Nat.zero_add, Nat.add_zero, setAll])
  | ((first | apply w_lss | apply w_leq | apply w_gtr | apply w_geq | apply w_eql | apply w_neq | apply w_add | apply w_sub | apply w_mul | apply w_idx | apply w_ld | apply w_fld | apply w_fa | apply w_extv | apply w_min | apply w_max | apply w_slhi | apply w_sllo | apply w_bs2); iterate 3 exact rfl)
  | ((first | apply w_eqlb | apply w_neqb | apply w_idxs | apply w_lds | apply w_ext); iterate 3 exact rfl)
  | (apply w_rem; exact rfl; exact rfl; exact rfl; (focus (omega; done)); (focus (omega; done)))
  | (apply w_quo; exact rfl; exact rfl; exact rfl; (focus (omega; done)); (focus (omega; done)))
  | (apply w_remT; exact rfl; exact rfl; exact rfl)
  | (apply w_quoT; exact rfl; exact rfl; exact rfl)
  | ((first | apply w_not | apply w_neg | apply w_conv | apply w_build0 | apply w_bs1 | apply w_boxa); iterate 2 exact rfl)
  | (apply w_idxo; exact rfl; exact rfl; (first | exact .sli rfl | exact .sls rfl | exact .slr rfl); exact rfl)
  | ((first | apply w_idxr | apply w_ldr); iterate 4 exact rfl)
  | (apply w_ldo; iterate 4 exact rfl)
  | (apply w_ldls; iterate 4 exact rfl)
  | (apply w_ldrp; iterate 4 exact rfl)
  | (apply w_ldb; iterate 5 exact rfl)
  | (apply w_ldst; iterate 5 exact rfl)
  | ((first | apply w_sllh | apply w_stbi); iterate 4 exact rfl)
  | ((first | apply w_oslo | apply w_oshi | apply w_stbii); iterate 4 exact rfl)
  | (apply w_build1; exact rfl; exact rfl; (first | exact one_val rfl rfl | exact one_ints | exact one_intss | exact one_own rfl True.intro))
  | (apply w_build2; exact rfl; exact rfl; exact rfl; (first | exact one_val rfl rfl | exact one_ints | exact one_intss | exact one_own rfl True.intro); (first | exact one_val rfl rfl | exact one_ints | exact one_intss | exact one_own rfl True.intro))
  | (apply w_bs0; iterate 1 exact rfl)
  | (apply w_appn; exact rfl; exact rfl; (first | exact .ints _ | exact .sli rfl | exact .orow rfl | exact .nil | exact .osub rfl (by simp; omega)); exact rfl)
  | (apply w_app; exact rfl; exact rfl; exact rfl; exact rfl; (first | exact .ints _ | exact .sli rfl | exact .orow rfl | exact .nil | exact .osub rfl (by simp; omega)); rotate_left 1; simp only [Env.mp, List.map_cons, List.map_nil, List.set_cons_zero, List.set_cons_succ, AV.kill, AV.kill1, AO.kill, AV.noRow, AV.noRow1, AO.via, reduceIte, Nat.reduceEqDiff, Nat.reduceLT, Env.up, Nat.zero_ne_one, Nat.one_ne_zero, Nat.reduceAdd, List.cons_append, List.nil_append]; rotate_left 1)
  | (apply w_alst; iterate 2 exact rfl)
  | (apply w_alone; iterate 3 exact rfl)
  | (apply w_mki; exact rfl; exact rfl; rotate_left 3; exact rfl; rotate_left 1)
  | (apply w_sti; exact rfl; exact rfl; rotate_left 1; exact rfl; rotate_left 2)
  | (apply w_stst; iterate 5 exact rfl)
  | (apply w_stbv; iterate 6 exact rfl)
  | (apply w_stbo; exact rfl; exact rfl; exact rfl; exact rfl; exact rfl; exact True.intro)
  | ((apply AOps.splitB; exact rfl; exact rfl) <;> intro h)
  | apply AllOf.nil
  | (apply AllOf.cons; exact rfl)
  | (apply AAny.take; exact rfl; exact rfl; kernel_rfl; kernel_rfl)
  | (apply AAny.all; exact rfl)
  | (apply AAny.done; exact rfl)
  | (apply inI_of <;> omega)
  | omega
  | (simp <;> omega))
    all_goals exact ⟨_, _, _, .a2 Try.results10 rfl rfl, .tup2 (.sli rfl), by rw [pE], by rw [pV]⟩
  | false =>
    have hE : zoE xs = 1 := by simp [zoE, hb]
    have pE : pbE xs = 1 := by simp [pbE, hb]
    have pV : pbV xs = [] := by simp [pbV, hb]
    rw [hE] at h
    repeat' (first
  | (apply AOps.nil; try simp only [List.nil_append, List.cons_append, List.set_cons_zero, List.set_cons_succ, List.length_cons, List.length_nil, Nat.reduceAdd, AV.sh, AV.sh1, AV.sh0, AO.sh, List.map_cons, List.map_nil, Nat.zero_add, Nat.add_zero, setAll])
  | ((apply AOps.splitP; exact rfl; exact rfl) <;> intro h)
  | ((apply AOps.splitN; exact rfl; exact rfl) <;> intro h)
  | (apply w_move; exact rfl; exact rfl)
  | (apply w_assign; exact rfl; exact rfl)
  | apply AWp.seq
  | apply AWp.region
  | ((apply AWp.condP; exact rfl) <;> intro h)
  | ((apply AWp.condN; exact rfl) <;> intro h)
  | (apply AWp.condT; exact rfl)
  | (apply AWp.condF; exact rfl)
  | ((apply AWp.condB; exact rfl) <;> intro h)
  | apply AWp.block
  | apply AWp.ret
  | apply AWp.exit
  | apply AWp.skip
  | (apply AWp.regionQ; kernel_rfl; kernel_rfl)
  | (apply if_pos'; exact rfl)
  | (apply if_neg'; decide)
  | (apply w_skip; exact rfl)
  | (apply w_pickT; exact rfl; exact rfl; exact rfl)
  | (apply w_pickF; exact rfl; exact rfl; exact rfl)
  | (apply w_len; exact rfl; exact rfl; first | exact .ints _ | exact .intss _ | exact .sli rfl | exact .sls rfl | exact .slr rfl | exact .orow rfl | exact .nil)
  | (apply w_callm (h); (focus ((repeat (first | exact im_nil | refine im_cons rfl (.val _) ?_ | refine im_cons rfl (.ints _) ?_ | refine im_cons rfl (.intss _) ?_ | refine im_cons rfl (.sli rfl) ?_ | refine im_cons rfl (.sls rfl) ?_ | refine im_cons rfl (.orow rfl) ?_ | refine im_cons rfl (.osub rfl (by simp; omega)) ?_ | refine im_cons rfl (.nil) ?_ | refine im_cons rfl (.nils) ?_ | refine im_cons rfl (im_agg2 (.val _) (.ints _)) ?_ | refine im_cons rfl (im_agg2 (.val _) (.sli rfl)) ?_ | refine im_cons rfl (im_agg2 (.val _) (.nil)) ?_ | refine im_cons rfl (im_agg2 (.ints _) (.intss _)) ?_ | refine im_cons rfl (im_agg2 (.ints _) (.sls rfl)) ?_ | refine im_cons rfl (im_agg2 (.sli rfl) (.intss _)) ?_ | refine im_cons rfl (im_agg2 (.sli rfl) (.sls rfl)) ?_ | refine im_cons rfl (im_agg1 (.ints _)) ?_ | refine im_cons rfl (im_agg1 (.sli rfl)) ?_ | refine im_cons rfl (im_agg1 (.intss _)) ?_ | refine im_cons rfl (im_agg1 (.sls rfl)) ?_ | refine im_cons rfl (im_agg1 (.nil)) ?_ | refine im_cons rfl (im_agg1 (.nils)) ?_)); done)); rintro r os0 ⟨rfl, rfl⟩; try simp only [List.nil_append, List.cons_append, List.set_cons_zero, List.set_cons_succ, List.length_cons, List.length_nil, Nat.reduceAdd, AV.sh, AV.sh1, AV.sh0, AO.sh, List.map_cons, List.map_nil, Nat.zero_add, Nat.add_zero, setAll])
  | (apply w_callm (h2); (focus ((repeat (first | exact im_nil | refine im_cons rfl (.val _) ?_ | refine im_cons rfl (.ints _) ?_ | refine im_cons rfl (.intss _) ?_ | refine im_cons rfl (.sli rfl) ?_ | refine im_cons rfl (.sls rfl) ?_ | refine im_cons rfl (.orow rfl) ?_ | refine im_cons rfl (.osub rfl (by simp; omega)) ?_ | refine im_cons rfl (.nil) ?_ | refine im_cons rfl (.nils) ?_ | refine im_cons rfl (im_agg2 (.val _) (.ints _)) ?_ | refine im_cons rfl (im_agg2 (.val _) (.sli rfl)) ?_ | refine im_cons rfl (im_agg2 (.val _) (.nil)) ?_ | refine im_cons rfl (im_agg2 (.ints _) (.intss _)) ?_ | refine im_cons rfl (im_agg2 (.ints _) (.sls rfl)) ?_ | refine im_cons rfl (im_agg2 (.sli rfl) (.intss _)) ?_ | refine im_cons rfl (im_agg2 (.sli rfl) (.sls rfl)) ?_ | refine im_cons rfl (im_agg1 (.ints _)) ?_ | refine im_cons rfl (im_agg1 (.sli rfl)) ?_ | refine im_cons rfl (im_agg1 (.intss _)) ?_ | refine im_cons rfl (im_agg1 (.sls rfl)) ?_ | refine im_cons rfl (im_agg1 (.nil)) ?_ | refine im_cons rfl (im_agg1 (.nils)) ?_)); done)); rintro r os0 ⟨rfl, rfl⟩; try simp only [List.nil_append, List.cons_append, List.set_cons_zero, List.set_cons_succ, List.length_cons, List.length_nil, Nat.reduceAdd, AV.sh, AV.sh1, AV.sh0, AO.sh, List.map_cons, List.map_nil, Nat.zero_add, Nat.add_zero, setAll])
  | ((first | apply w_lss | apply w_leq | apply w_gtr | apply w_geq | apply w_eql | apply w_neq | apply w_add | apply w_sub | apply w_mul | apply w_idx | apply w_ld | apply w_fld | apply w_fa | apply w_extv | apply w_min | apply w_max | apply w_slhi | apply w_sllo | apply w_bs2); iterate 3 exact rfl)
  | ((first | apply w_eqlb | apply w_neqb | apply w_idxs | apply w_lds | apply w_ext); iterate 3 exact rfl)
  | (apply w_rem; exact rfl; exact rfl; exact rfl; (focus (omega; done)); (focus (omega; done)))
  | (apply w_quo; exact rfl; exact rfl; exact rfl; (focus (omega; done)); (focus (omega; done)))
  | (apply w_remT; exact rfl; exact rfl; exact rfl)
  | (apply w_quoT; exact rfl; exact rfl; exact rfl)
  | ((first | apply w_not | apply w_neg | apply w_conv | apply w_build0 | apply w_bs1 | apply w_boxa); iterate 2 exact rfl)
  | (apply w_idxo; exact rfl; exact rfl; (first | exact .sli rfl | exact .sls rfl | exact .slr rfl); exact rfl)
  | ((first | apply w_idxr | apply w_ldr); iterate 4 exact rfl)
  | (apply w_ldo; iterate 4 exact rfl)
  | (apply w_ldls; iterate 4 exact rfl)
  | (apply w_ldrp; iterate 4 exact rfl)
  | (apply w_ldb; iterate 5 exact rfl)
  | (apply w_ldst; iterate 5 exact rfl)
  | ((first | apply w_sllh | apply w_stbi); iterate 4 exact rfl)
  | ((first | apply w_oslo | apply w_oshi | apply w_stbii); iterate 4 exact rfl)
  | (apply w_build1; exact rfl; exact rfl; (first | exact one_val rfl rfl | exact one_ints | exact one_intss | exact one_own rfl True.intro))
  | (apply w_build2; exact rfl; exact rfl; exact rfl; (first | exact one_val rfl rfl | exact one_ints | exact one_intss | exact one_own rfl True.intro); (first | exact one_val rfl rfl | exact one_ints | exact one_intss | exact one_own rfl True.intro))
  | (apply w_bs0; iterate 1 exact rfl)
  | (apply w_appn; exact rfl; exact rfl; (first | exact .ints _ | exact .sli rfl | exact .orow rfl | exact .nil | exact .osub rfl (by simp; omega)); exact rfl)
  | (apply w_app; exact rfl; exact rfl; exact rfl; exact rfl; (first | exact .ints _ | exact .sli rfl | exact .orow rfl | exact .nil | exact .osub rfl (by simp; omega)); rotate_left 1; simp only [Env.mp, List.map_cons, List.map_nil, List.set_cons_zero, List.set_cons_succ, AV.kill, AV.kill1, AO.kill, AV.noRow, AV.noRow1, AO.via, reduceIte, Nat.reduceEqDiff, Nat.reduceLT, Env.up, Nat.zero_ne_one, Nat.one_ne_zero, Nat.reduceAdd, List.cons_append, List.nil_append]; rotate_left 1)
  | (apply w_alst; iterate 2 exact rfl)
  | (apply w_alone; iterate 3 exact rfl)
  | (apply w_mki; exact rfl; exact rfl; rotate_left 3; exact rfl; rotate_left 1)
  | (apply w_sti; exact rfl; exact rfl; rotate_left 1; exact rfl; rotate_left 2)
  | (apply w_stst; iterate 5 exact rfl)
  | (apply w_stbv; iterate 6 exact rfl)
  | (apply w_stbo; exact rfl; exact rfl; exact rfl; exact rfl; exact rfl; exact True.intro)
  | ((apply AOps.splitB; exact rfl; exact rfl) <;> intro h)
  | apply AllOf.nil
  | (apply AllOf.cons; exact rfl)
  | (apply AAny.take; exact rfl; exact rfl; kernel_rfl; kernel_rfl)
  | (apply AAny.all; exact rfl)
  | (apply AAny.done; exact rfl)
  | (apply inI_of <;> omega)
  | omega
  | (simp <;> omega))
    all_goals exact ⟨_, _, _, .a2 Try.results10 rfl rfl, .tup2 (.nil 2), by rw [pE], by rw [pV]⟩
end Go.Proofs.Ytkcbihmpjkkccaa
/-
  A list without its last zeros. No condition but a bound.
-/
namespace Go.Proofs.Ytkcbihmpjkkccaa
open Go Go.RowKit
attribute [local irreducible] AWp AOps ResIs Ret1 QOp LOp COp AFnV AFn Imms LeE LeO
set_option maxHeartbeats 1000000
set_option linter.unusedSimpArgs false
set_option linter.unusedVariables false

/-- How many of the first n entries are left where zeros are cut off behind. -/
def tlen (xs : List Int) : Nat → Nat
  | 0 => 0
  | n + 1 => if geti xs n = 0 then tlen xs n else n + 1
theorem trimmed_c (T : TypeId) (xs : List Int) (hl : xs.length ≤ 1048576) : AFnR Try.prog 28 [.osub 0 0 xs.length] T xs 0 (tlen xs xs.length) := by
  (refine AFnR.start Try.func28 Try.ntmps28 rfl (by kernel_rfl) fun K => ?_; simp only [Env.start, enumF, List.length_cons, List.length_nil, Nat.reduceAdd, Nat.reduceSub, List.cons_append, List.nil_append])
  repeat' (first
  | (apply AOps.nil; try simp only [List.nil_append, List.cons_append, List.set_cons_zero, List.set_cons_succ, List.length_cons, List.length_nil, Nat.reduceAdd, AV.sh, AV.sh1, AV.sh0, AO.sh, List.map_cons, List.map_nil, Nat.zero_add, Nat.add_zero, setAll])
  | ((apply AOps.splitP; exact rfl; exact rfl) <;> intro h)
  | ((apply AOps.splitN; exact rfl; exact rfl) <;> intro h)
  | (apply w_move; exact rfl; exact rfl)
  | (apply w_assign; exact rfl; exact rfl)
  | apply AWp.seq
  | apply AWp.region
  | ((apply AWp.condP; exact rfl) <;> intro h)
  | ((apply AWp.condN; exact rfl) <;> intro h)
  | (apply AWp.condT; exact rfl)
  | (apply AWp.condF; exact rfl)
  | ((apply AWp.condB; exact rfl) <;> intro h)
  | apply AWp.block
  | apply AWp.ret
  | apply AWp.exit
  | apply AWp.skip
  | (apply AWp.regionQ; kernel_rfl; kernel_rfl)
  | (apply if_pos'; exact rfl)
  | (apply if_neg'; decide)
  | (apply w_skip; exact rfl)
  | (apply w_pickT; exact rfl; exact rfl; exact rfl)
  | (apply w_pickF; exact rfl; exact rfl; exact rfl)
  | (apply w_len; exact rfl; exact rfl; first | exact .ints _ | exact .intss _ | exact .sli rfl | exact .sls rfl | exact .slr rfl | exact .orow rfl | exact .nil)
  | ((first | apply w_lenos | apply w_not | apply w_neg | apply w_conv | apply w_build0 | apply w_bs1 | apply w_boxa); iterate 2 exact rfl)
  | (apply w_idxos; iterate 3 exact rfl)
  | ((first | apply w_osubhi | apply w_alone); iterate 3 exact rfl)
  | (apply w_eqnil; iterate 2 exact rfl)
  | ((first | apply w_lss | apply w_leq | apply w_gtr | apply w_geq | apply w_eql | apply w_neq | apply w_add | apply w_sub | apply w_mul | apply w_idx | apply w_ld | apply w_fld | apply w_fa | apply w_extv | apply w_min | apply w_max | apply w_slhi | apply w_sllo | apply w_bs2); iterate 3 exact rfl)
  | ((first | apply w_eqlb | apply w_neqb | apply w_idxs | apply w_lds | apply w_ext); iterate 3 exact rfl)
  | (apply w_rem; exact rfl; exact rfl; exact rfl; (focus (omega; done)); (focus (omega; done)))
  | (apply w_quo; exact rfl; exact rfl; exact rfl; (focus (omega; done)); (focus (omega; done)))
  | (apply w_remT; exact rfl; exact rfl; exact rfl)
  | (apply w_quoT; exact rfl; exact rfl; exact rfl)
  | (apply w_idxo; exact rfl; exact rfl; (first | exact .sli rfl | exact .sls rfl | exact .slr rfl); exact rfl)
  | ((first | apply w_idxr | apply w_ldr); iterate 4 exact rfl)
  | (apply w_ldo; iterate 4 exact rfl)
  | (apply w_ldls; iterate 4 exact rfl)
  | (apply w_ldrp; iterate 4 exact rfl)
  | (apply w_ldb; iterate 5 exact rfl)
  | (apply w_ldst; iterate 5 exact rfl)
  | ((first | apply w_sllh | apply w_stbi); iterate 4 exact rfl)
  | ((first | apply w_oslo | apply w_oshi | apply w_stbii); iterate 4 exact rfl)
  | (apply w_copy; exact rfl; (first | exact .own rfl rfl rfl | exact .osub); exact rfl; rotate_left 1; exact rfl; (first | exact .ints _ | exact .sli rfl | exact .orow rfl | exact .nil | exact .osub rfl (by simp; omega)))
  | (apply w_build1; exact rfl; exact rfl; (first | exact one_val rfl rfl | exact one_ints | exact one_intss | exact one_own rfl True.intro))
  | (apply w_build2; exact rfl; exact rfl; exact rfl; (first | exact one_val rfl rfl | exact one_ints | exact one_intss | exact one_own rfl True.intro); (first | exact one_val rfl rfl | exact one_ints | exact one_intss | exact one_own rfl True.intro))
  | (apply w_bs0; iterate 1 exact rfl)
  | (apply w_appn; exact rfl; exact rfl; (first | exact .ints _ | exact .sli rfl | exact .orow rfl | exact .nil | exact .osub rfl (by simp; omega)); exact rfl)
  | (apply w_app; exact rfl; exact rfl; exact rfl; exact rfl; (first | exact .ints _ | exact .sli rfl | exact .orow rfl | exact .nil | exact .osub rfl (by simp; omega)); rotate_left 1; simp only [Env.mp, List.map_cons, List.map_nil, List.set_cons_zero, List.set_cons_succ, AV.kill, AV.kill1, AO.kill, AV.noRow, AV.noRow1, AO.via, reduceIte, Nat.reduceEqDiff, Nat.reduceLT, Env.up, Nat.zero_ne_one, Nat.one_ne_zero, Nat.reduceAdd, List.cons_append, List.nil_append]; rotate_left 1)
  | (apply w_alst; iterate 2 exact rfl)
  | (apply w_mki; exact rfl; exact rfl; rotate_left 3; exact rfl; rotate_left 1)
  | (apply w_sti; exact rfl; exact rfl; rotate_left 1; exact rfl; rotate_left 2)
  | (apply w_stst; iterate 5 exact rfl)
  | (apply w_stbv; iterate 6 exact rfl)
  | (apply w_stbo; exact rfl; exact rfl; exact rfl; exact rfl; exact rfl; exact True.intro)
  | ((apply AOps.splitB; exact rfl; exact rfl) <;> intro h)
  | apply AllOf.nil
  | (apply AllOf.cons; exact rfl)
  | (apply AAny.take; exact rfl; exact rfl; kernel_rfl; kernel_rfl)
  | (apply AAny.all; exact rfl)
  | (apply AAny.done; exact rfl)
  | (apply inI_of <;> omega)
  | omega
  | (simp <;> omega))
  refine AWp.loop (ι := Nat) (fun n => ⟨21, [(0, .osub 0 0 n)]⟩) (fun _ => [.sli T xs, .keep 2 K]) (fun n => n ≤ xs.length ∧ tlen xs n = tlen xs xs.length) (fun n => n) xs.length ⟨by omega, rfl⟩ ⟨lee rfl (by (repeat (first | exact le_nil | refine le_eq rfl rfl ?_ | refine le_eq rfl (congrArg AV.i (by omega)) ?_))), by (repeat (first | exact lo_nil | refine lo_dead ?_ | refine lo_eq rfl ?_)), rfl, rfl⟩ ?_
  rintro n ⟨h0, h1⟩
  cases n with
  | zero =>
    repeat' (first
  | (apply AOps.nil; try simp only [List.nil_append, List.cons_append, List.set_cons_zero, List.set_cons_succ, List.length_cons, List.length_nil, Nat.reduceAdd, AV.sh, AV.sh1, AV.sh0, AO.sh, List.map_cons, List.map_nil, Nat.zero_add, Nat.add_zero, setAll])
  | ((apply AOps.splitP; exact rfl; exact rfl) <;> intro h)
  | ((apply AOps.splitN; exact rfl; exact rfl) <;> intro h)
  | (apply w_move; exact rfl; exact rfl)
  | (apply w_assign; exact rfl; exact rfl)
  | apply AWp.seq
  | apply AWp.region
  | ((apply AWp.condP; exact rfl) <;> intro h)
  | ((apply AWp.condN; exact rfl) <;> intro h)
  | (apply AWp.condT; exact rfl)
  | (apply AWp.condF; exact rfl)
  | ((apply AWp.condB; exact rfl) <;> intro h)
  | apply AWp.block
  | apply AWp.ret
  | apply AWp.exit
  | apply AWp.skip
  | (apply AWp.regionQ; kernel_rfl; kernel_rfl)
  | (apply if_pos'; exact rfl)
  | (apply if_neg'; decide)
  | (apply w_skip; exact rfl)
  | (apply w_pickT; exact rfl; exact rfl; exact rfl)
  | (apply w_pickF; exact rfl; exact rfl; exact rfl)
  | (apply w_len; exact rfl; exact rfl; first | exact .ints _ | exact .intss _ | exact .sli rfl | exact .sls rfl | exact .slr rfl | exact .orow rfl | exact .nil)
  | ((first | apply w_lenos | apply w_not | apply w_neg | apply w_conv | apply w_build0 | apply w_bs1 | apply w_boxa); iterate 2 exact rfl)
  | (apply w_idxos; iterate 3 exact rfl)
  | ((first | apply w_osubhi | apply w_alone); iterate 3 exact rfl)
  | (apply w_eqnil; iterate 2 exact rfl)
  | omega
  | ((first | apply w_lss | apply w_leq | apply w_gtr | apply w_geq | apply w_eql | apply w_neq | apply w_add | apply w_sub | apply w_mul | apply w_idx | apply w_ld | apply w_fld | apply w_fa | apply w_extv | apply w_min | apply w_max | apply w_slhi | apply w_sllo | apply w_bs2); iterate 3 exact rfl)
  | ((first | apply w_eqlb | apply w_neqb | apply w_idxs | apply w_lds | apply w_ext); iterate 3 exact rfl)
  | (apply w_rem; exact rfl; exact rfl; exact rfl; (focus (omega; done)); (focus (omega; done)))
  | (apply w_quo; exact rfl; exact rfl; exact rfl; (focus (omega; done)); (focus (omega; done)))
  | (apply w_remT; exact rfl; exact rfl; exact rfl)
  | (apply w_quoT; exact rfl; exact rfl; exact rfl)
  | (apply w_idxo; exact rfl; exact rfl; (first | exact .sli rfl | exact .sls rfl | exact .slr rfl); exact rfl)
  | ((first | apply w_idxr | apply w_ldr); iterate 4 exact rfl)
  | (apply w_ldo; iterate 4 exact rfl)
  | (apply w_ldls; iterate 4 exact rfl)
  | (apply w_ldrp; iterate 4 exact rfl)
  | (apply w_ldb; iterate 5 exact rfl)
  | (apply w_ldst; iterate 5 exact rfl)
  | ((first | apply w_sllh | apply w_stbi); iterate 4 exact rfl)
  | ((first | apply w_oslo | apply w_oshi | apply w_stbii); iterate 4 exact rfl)
  | (apply w_copy; exact rfl; (first | exact .own rfl rfl rfl | exact .osub); exact rfl; rotate_left 1; exact rfl; (first | exact .ints _ | exact .sli rfl | exact .orow rfl | exact .nil | exact .osub rfl (by simp; omega)))
  | (apply w_build1; exact rfl; exact rfl; (first | exact one_val rfl rfl | exact one_ints | exact one_intss | exact one_own rfl True.intro))
  | (apply w_build2; exact rfl; exact rfl; exact rfl; (first | exact one_val rfl rfl | exact one_ints | exact one_intss | exact one_own rfl True.intro); (first | exact one_val rfl rfl | exact one_ints | exact one_intss | exact one_own rfl True.intro))
  | (apply w_bs0; iterate 1 exact rfl)
  | (apply w_appn; exact rfl; exact rfl; (first | exact .ints _ | exact .sli rfl | exact .orow rfl | exact .nil | exact .osub rfl (by simp; omega)); exact rfl)
  | (apply w_app; exact rfl; exact rfl; exact rfl; exact rfl; (first | exact .ints _ | exact .sli rfl | exact .orow rfl | exact .nil | exact .osub rfl (by simp; omega)); rotate_left 1; simp only [Env.mp, List.map_cons, List.map_nil, List.set_cons_zero, List.set_cons_succ, AV.kill, AV.kill1, AO.kill, AV.noRow, AV.noRow1, AO.via, reduceIte, Nat.reduceEqDiff, Nat.reduceLT, Env.up, Nat.zero_ne_one, Nat.one_ne_zero, Nat.reduceAdd, List.cons_append, List.nil_append]; rotate_left 1)
  | (apply w_alst; iterate 2 exact rfl)
  | (apply w_mki; exact rfl; exact rfl; rotate_left 3; exact rfl; rotate_left 1)
  | (apply w_sti; exact rfl; exact rfl; rotate_left 1; exact rfl; rotate_left 2)
  | (apply w_stst; iterate 5 exact rfl)
  | (apply w_stbv; iterate 6 exact rfl)
  | (apply w_stbo; exact rfl; exact rfl; exact rfl; exact rfl; exact rfl; exact True.intro)
  | ((apply AOps.splitB; exact rfl; exact rfl) <;> intro h)
  | apply AllOf.nil
  | (apply AllOf.cons; exact rfl)
  | (apply AAny.take; exact rfl; exact rfl; kernel_rfl; kernel_rfl)
  | (apply AAny.all; exact rfl)
  | (apply AAny.done; exact rfl)
  | (apply inI_of <;> omega)
  | omega
  | (simp <;> omega))
    have e1 : tlen xs xs.length = 0 := by rw [← h1]; rfl
    exact ⟨.v1 Try.results28 (by rw [e1]; rfl), rfl, rfl⟩
  | succ m =>
    have e0 : ((((m + 1 : Nat) : Int) - 1).toNat : Nat) = m := by omega
    by_cases hz : geti xs m = 0
    · have hz' : geti xs (((((m + 1 : Nat) : Int) - 1).toNat : Nat) : Int) = 0 := by rw [e0]; exact hz
      repeat' (first
  | (apply AOps.nil; try simp only [List.nil_append, List.cons_append, List.set_cons_zero, List.set_cons_succ, List.length_cons, List.length_nil, Nat.reduceAdd, AV.sh, AV.sh1, AV.sh0, AO.sh, List.map_cons, List.map_nil, Nat.zero_add, Nat.add_zero, setAll])
  | ((apply AOps.splitP; exact rfl; exact rfl) <;> intro h)
  | ((apply AOps.splitN; exact rfl; exact rfl) <;> intro h)
  | (apply w_move; exact rfl; exact rfl)
  | (apply w_assign; exact rfl; exact rfl)
  | apply AWp.seq
  | apply AWp.region
  | ((apply AWp.condP; exact rfl) <;> intro h)
  | ((apply AWp.condN; exact rfl) <;> intro h)
  | (apply AWp.condT; exact rfl)
  | (apply AWp.condF; exact rfl)
  | ((apply AWp.condB; exact rfl) <;> intro h)
  | apply AWp.block
  | apply AWp.ret
  | apply AWp.exit
  | apply AWp.skip
  | (apply AWp.regionQ; kernel_rfl; kernel_rfl)
  | (apply if_pos'; exact rfl)
  | (apply if_neg'; decide)
  | (apply w_skip; exact rfl)
  | (apply w_pickT; exact rfl; exact rfl; exact rfl)
  | (apply w_pickF; exact rfl; exact rfl; exact rfl)
  | (apply w_len; exact rfl; exact rfl; first | exact .ints _ | exact .intss _ | exact .sli rfl | exact .sls rfl | exact .slr rfl | exact .orow rfl | exact .nil)
  | ((first | apply w_lenos | apply w_not | apply w_neg | apply w_conv | apply w_build0 | apply w_bs1 | apply w_boxa); iterate 2 exact rfl)
  | (apply w_idxos; iterate 3 exact rfl)
  | ((first | apply w_osubhi | apply w_alone); iterate 3 exact rfl)
  | (apply w_eqnil; iterate 2 exact rfl)
  | omega
  | ((first | apply w_lss | apply w_leq | apply w_gtr | apply w_geq | apply w_eql | apply w_neq | apply w_add | apply w_sub | apply w_mul | apply w_idx | apply w_ld | apply w_fld | apply w_fa | apply w_extv | apply w_min | apply w_max | apply w_slhi | apply w_sllo | apply w_bs2); iterate 3 exact rfl)
  | ((first | apply w_eqlb | apply w_neqb | apply w_idxs | apply w_lds | apply w_ext); iterate 3 exact rfl)
  | (apply w_rem; exact rfl; exact rfl; exact rfl; (focus (omega; done)); (focus (omega; done)))
  | (apply w_quo; exact rfl; exact rfl; exact rfl; (focus (omega; done)); (focus (omega; done)))
  | (apply w_remT; exact rfl; exact rfl; exact rfl)
  | (apply w_quoT; exact rfl; exact rfl; exact rfl)
  | (apply w_idxo; exact rfl; exact rfl; (first | exact .sli rfl | exact .sls rfl | exact .slr rfl); exact rfl)
  | ((first | apply w_idxr | apply w_ldr); iterate 4 exact rfl)
  | (apply w_ldo; iterate 4 exact rfl)
  | (apply w_ldls; iterate 4 exact rfl)
  | (apply w_ldrp; iterate 4 exact rfl)
  | (apply w_ldb; iterate 5 exact rfl)
  | (apply w_ldst; iterate 5 exact rfl)
  | ((first | apply w_sllh | apply w_stbi); iterate 4 exact rfl)
  | ((first | apply w_oslo | apply w_oshi | apply w_stbii); iterate 4 exact rfl)
  | (apply w_copy; exact rfl; (first | exact .own rfl rfl rfl | exact .osub); exact rfl; rotate_left 1; exact rfl; (first | exact .ints _ | exact .sli rfl | exact .orow rfl | exact .nil | exact .osub rfl (by simp; omega)))
  | (apply w_build1; exact rfl; exact rfl; (first | exact one_val rfl rfl | exact one_ints | exact one_intss | exact one_own rfl True.intro))
  | (apply w_build2; exact rfl; exact rfl; exact rfl; (first | exact one_val rfl rfl | exact one_ints | exact one_intss | exact one_own rfl True.intro); (first | exact one_val rfl rfl | exact one_ints | exact one_intss | exact one_own rfl True.intro))
  | (apply w_bs0; iterate 1 exact rfl)
  | (apply w_appn; exact rfl; exact rfl; (first | exact .ints _ | exact .sli rfl | exact .orow rfl | exact .nil | exact .osub rfl (by simp; omega)); exact rfl)
  | (apply w_app; exact rfl; exact rfl; exact rfl; exact rfl; (first | exact .ints _ | exact .sli rfl | exact .orow rfl | exact .nil | exact .osub rfl (by simp; omega)); rotate_left 1; simp only [Env.mp, List.map_cons, List.map_nil, List.set_cons_zero, List.set_cons_succ, AV.kill, AV.kill1, AO.kill, AV.noRow, AV.noRow1, AO.via, reduceIte, Nat.reduceEqDiff, Nat.reduceLT, Env.up, Nat.zero_ne_one, Nat.one_ne_zero, Nat.reduceAdd, List.cons_append, List.nil_append]; rotate_left 1)
  | (apply w_alst; iterate 2 exact rfl)
  | (apply w_mki; exact rfl; exact rfl; rotate_left 3; exact rfl; rotate_left 1)
  | (apply w_sti; exact rfl; exact rfl; rotate_left 1; exact rfl; rotate_left 2)
  | (apply w_stst; iterate 5 exact rfl)
  | (apply w_stbv; iterate 6 exact rfl)
  | (apply w_stbo; exact rfl; exact rfl; exact rfl; exact rfl; exact rfl; exact True.intro)
  | ((apply AOps.splitB; exact rfl; exact rfl) <;> intro h)
  | apply AllOf.nil
  | (apply AllOf.cons; exact rfl)
  | (apply AAny.take; exact rfl; exact rfl; kernel_rfl; kernel_rfl)
  | (apply AAny.all; exact rfl)
  | (apply AAny.done; exact rfl)
  | (apply inI_of <;> omega)
  | omega
  | (simp <;> omega))
      refine ⟨m, ⟨by omega, ?_⟩, by omega, ⟨lee rfl (le_eq rfl (congrArg (AV.osub 0 0) e0) le_nil), lo_eq rfl (lo_eq rfl lo_nil), rfl, rfl⟩⟩
      rw [← h1, tlen, if_pos hz]
    · have hz' : ¬ geti xs (((((m + 1 : Nat) : Int) - 1).toNat : Nat) : Int) = 0 := by rw [e0]; exact hz
      have e1 : tlen xs xs.length = m + 1 := by rw [← h1, tlen, if_neg hz]
      repeat' (first
  | (apply AOps.nil; try simp only [List.nil_append, List.cons_append, List.set_cons_zero, List.set_cons_succ, List.length_cons, List.length_nil, Nat.reduceAdd, AV.sh, AV.sh1, AV.sh0, AO.sh, List.map_cons, List.map_nil, Nat.zero_add, Nat.add_zero, setAll])
  | ((apply AOps.splitP; exact rfl; exact rfl) <;> intro h)
  | ((apply AOps.splitN; exact rfl; exact rfl) <;> intro h)
  | (apply w_move; exact rfl; exact rfl)
  | (apply w_assign; exact rfl; exact rfl)
  | apply AWp.seq
  | apply AWp.region
  | ((apply AWp.condP; exact rfl) <;> intro h)
  | ((apply AWp.condN; exact rfl) <;> intro h)
  | (apply AWp.condT; exact rfl)
  | (apply AWp.condF; exact rfl)
  | ((apply AWp.condB; exact rfl) <;> intro h)
  | apply AWp.block
  | apply AWp.ret
  | apply AWp.exit
  | apply AWp.skip
  | (apply AWp.regionQ; kernel_rfl; kernel_rfl)
  | (apply if_pos'; exact rfl)
  | (apply if_neg'; decide)
  | (apply w_skip; exact rfl)
  | (apply w_pickT; exact rfl; exact rfl; exact rfl)
  | (apply w_pickF; exact rfl; exact rfl; exact rfl)
  | (apply w_len; exact rfl; exact rfl; first | exact .ints _ | exact .intss _ | exact .sli rfl | exact .sls rfl | exact .slr rfl | exact .orow rfl | exact .nil)
  | ((first | apply w_lenos | apply w_not | apply w_neg | apply w_conv | apply w_build0 | apply w_bs1 | apply w_boxa); iterate 2 exact rfl)
  | (apply w_idxos; iterate 3 exact rfl)
  | ((first | apply w_osubhi | apply w_alone); iterate 3 exact rfl)
  | (apply w_eqnil; iterate 2 exact rfl)
  | omega
  | ((first | apply w_lss | apply w_leq | apply w_gtr | apply w_geq | apply w_eql | apply w_neq | apply w_add | apply w_sub | apply w_mul | apply w_idx | apply w_ld | apply w_fld | apply w_fa | apply w_extv | apply w_min | apply w_max | apply w_slhi | apply w_sllo | apply w_bs2); iterate 3 exact rfl)
  | ((first | apply w_eqlb | apply w_neqb | apply w_idxs | apply w_lds | apply w_ext); iterate 3 exact rfl)
  | (apply w_rem; exact rfl; exact rfl; exact rfl; (focus (omega; done)); (focus (omega; done)))
  | (apply w_quo; exact rfl; exact rfl; exact rfl; (focus (omega; done)); (focus (omega; done)))
  | (apply w_remT; exact rfl; exact rfl; exact rfl)
  | (apply w_quoT; exact rfl; exact rfl; exact rfl)
  | (apply w_idxo; exact rfl; exact rfl; (first | exact .sli rfl | exact .sls rfl | exact .slr rfl); exact rfl)
  | ((first | apply w_idxr | apply w_ldr); iterate 4 exact rfl)
  | (apply w_ldo; iterate 4 exact rfl)
  | (apply w_ldls; iterate 4 exact rfl)
  | (apply w_ldrp; iterate 4 exact rfl)
  | (apply w_ldb; iterate 5 exact rfl)
  | (apply w_ldst; iterate 5 exact rfl)
  | ((first | apply w_sllh | apply w_stbi); iterate 4 exact rfl)
  | ((first | apply w_oslo | apply w_oshi | apply w_stbii); iterate 4 exact rfl)
  | (apply w_copy; exact rfl; (first | exact .own rfl rfl rfl | exact .osub); exact rfl; rotate_left 1; exact rfl; (first | exact .ints _ | exact .sli rfl | exact .orow rfl | exact .nil | exact .osub rfl (by simp; omega)))
  | (apply w_build1; exact rfl; exact rfl; (first | exact one_val rfl rfl | exact one_ints | exact one_intss | exact one_own rfl True.intro))
  | (apply w_build2; exact rfl; exact rfl; exact rfl; (first | exact one_val rfl rfl | exact one_ints | exact one_intss | exact one_own rfl True.intro); (first | exact one_val rfl rfl | exact one_ints | exact one_intss | exact one_own rfl True.intro))
  | (apply w_bs0; iterate 1 exact rfl)
  | (apply w_appn; exact rfl; exact rfl; (first | exact .ints _ | exact .sli rfl | exact .orow rfl | exact .nil | exact .osub rfl (by simp; omega)); exact rfl)
  | (apply w_app; exact rfl; exact rfl; exact rfl; exact rfl; (first | exact .ints _ | exact .sli rfl | exact .orow rfl | exact .nil | exact .osub rfl (by simp; omega)); rotate_left 1; simp only [Env.mp, List.map_cons, List.map_nil, List.set_cons_zero, List.set_cons_succ, AV.kill, AV.kill1, AO.kill, AV.noRow, AV.noRow1, AO.via, reduceIte, Nat.reduceEqDiff, Nat.reduceLT, Env.up, Nat.zero_ne_one, Nat.one_ne_zero, Nat.reduceAdd, List.cons_append, List.nil_append]; rotate_left 1)
  | (apply w_alst; iterate 2 exact rfl)
  | (apply w_mki; exact rfl; exact rfl; rotate_left 3; exact rfl; rotate_left 1)
  | (apply w_sti; exact rfl; exact rfl; rotate_left 1; exact rfl; rotate_left 2)
  | (apply w_stst; iterate 5 exact rfl)
  | (apply w_stbv; iterate 6 exact rfl)
  | (apply w_stbo; exact rfl; exact rfl; exact rfl; exact rfl; exact rfl; exact True.intro)
  | ((apply AOps.splitB; exact rfl; exact rfl) <;> intro h)
  | apply AllOf.nil
  | (apply AllOf.cons; exact rfl)
  | (apply AAny.take; exact rfl; exact rfl; kernel_rfl; kernel_rfl)
  | (apply AAny.all; exact rfl)
  | (apply AAny.done; exact rfl)
  | (apply inI_of <;> omega)
  | omega
  | (simp <;> omega))
      exact ⟨.v1 Try.results28 (by rw [e1]; rfl), rfl, rfl⟩


theorem tlen_zero (xs : List Int) (h : ∀ k : Nat, k < xs.length → geti xs k = 0) : ∀ n, n ≤ xs.length → tlen xs n = 0
  | 0, _ => rfl
  | n + 1, hn => by rw [tlen, if_pos (h n (by omega))]; exact tlen_zero xs h n (by omega)
end Go.Proofs.Ytkcbihmpjkkccaa
/-
  Binomials and quotients by them in the program. No condition but bounds.
-/
namespace Go.Proofs.Ytkcbihmpjkkccaa
open Go Go.RowKit
open Cy (Ser Pol Phi xp)
attribute [local irreducible] AWp AOps ResIs Ret1 QOp LOp COp AFnV AFn Imms LeE LeO
set_option maxHeartbeats 1000000
set_option linter.unusedSimpArgs false
set_option linter.unusedVariables false

theorem binomial_c (n : Nat) (h1 : 1 ≤ n) (h2 : n ≤ 1000000) : AFn Try.prog 16 [.i n] (IsInts 2 (tab (n + 1) (xp n))) := by
  have hl : (List.replicate ((n : Int) + 1).toNat (0 : Int)).length = n + 1 := by first | (simp; done) | (simp; omega)
  have hl2 : ((List.replicate ((n : Int) + 1).toNat (0 : Int)).set (Int.toNat 0) (-1)).length = n + 1 := by first | (simp; done) | (simp; omega)
  have hs : ((List.replicate ((n : Int) + 1).toNat (0 : Int)).set (Int.toNat 0) (-1)).set (n : Int).toNat 1 = tab (n + 1) (xp n) := by
    rw [show ((n : Int) + 1).toNat = n + 1 by omega, Int.toNat_natCast, tab_rep, tab_set, tab_set]
    refine tab_congr fun k hk => ?_
    rw [xp_at]
    by_cases e : k = n
    · subst e
      rw [if_pos rfl, if_neg (by omega), if_pos (by omega), if_neg (by omega)]; rfl
    · rw [if_neg e]
      by_cases e0 : k = 0
      · rw [if_pos (show k = Int.toNat 0 from e0), if_pos (show k < n by omega), if_pos e0]; rfl
      · rw [if_neg (show ¬ k = Int.toNat 0 from e0), if_pos (show k < n by omega), if_neg e0]; rfl
  (refine AFn.start Try.func16 Try.ntmps16 rfl (by kernel_rfl) fun hk => ?_; simp only [Env.start, enumF, List.length_cons, List.length_nil, Nat.reduceAdd, Nat.reduceSub, List.cons_append, List.nil_append])
  repeat' (first | (apply AOps.nil; try simp only [List.nil_append, List.cons_append, List.set_cons_zero, List.set_cons_succ, List.length_cons, List.length_nil, Nat.reduceAdd, AV.sh, AV.sh1, AV.sh0, AO.sh, List.map_cons, List.map_nil, Nat.zero_add, Nat.add_zero, setAll]) | (apply w_move; exact rfl; exact rfl) | (apply w_assign; exact rfl; exact rfl) | apply AWp.seq | apply AWp.region | apply AWp.ret | omega | ((first | apply w_add | apply w_idx); iterate 3 exact rfl) | (apply w_idxo; exact rfl; exact rfl; (exact .sli rfl); exact rfl) | (apply w_mki; exact rfl; exact rfl; rotate_left 3; exact rfl; rotate_left 1) | (apply w_sti; exact rfl; exact rfl; rotate_left 1; exact rfl; rotate_left 2) | (apply inI_of <;> omega))
  exact ⟨_, _, _, .v1 Try.results16 rfl, .sli rfl, rfl, by rw [hs]⟩
theorem plusProduct_c (s a b : Int) (hs : -1000000 ≤ s ∧ s ≤ 1000000) (ha : -1000000 ≤ a ∧ a ≤ 1000000) (hb : b = 1 ∨ b = -1) (hr : -1000000 ≤ s + a * b ∧ s + a * b ≤ 1000000) : AFnV Try.prog 27 [.i s, .i a, .i b] (.tuple #[.int .i64 (s + a * b), .bool true]) := by
  have hb1 : (b.natAbs : Int) = 1 := by omega
  have hic := isCoefficient_c (s + a * b)
  rw [decide_eq_true (by omega)] at hic
  have hdv : (2000000000000 : Int) / (b.natAbs : Int) = 2000000000000 := by rw [hb1, Int.ediv_one]
  have hab : -1000000 ≤ a * b ∧ a * b ≤ 1000000 := by rcases hb with rfl | rfl <;> omega
  (refine AFnV.start Try.func27 Try.ntmps27 rfl (by kernel_rfl) fun hk => ?_; simp only [Env.start, enumF, List.length_cons, List.length_nil, Nat.reduceAdd, Nat.reduceSub, List.cons_append, List.nil_append])
  have ab1 := abs_c a (by unfold mid; omega)
  have ab2 := abs_c b (by unfold mid; omega)
  by_cases h0 : a = 0
  · subst h0
    have e : s + 0 * b = s := by omega
    rw [e]
    repeat' (first | (apply AOps.nil; try simp only [List.nil_append, List.cons_append, List.set_cons_zero, List.set_cons_succ, List.length_cons, List.length_nil, Nat.reduceAdd, AV.sh, AV.sh1, AV.sh0, AO.sh, List.map_cons, List.map_nil, Nat.zero_add, Nat.add_zero, setAll]) | ((apply AOps.splitP; exact rfl; exact rfl) <;> intro h) | (apply w_move; exact rfl; exact rfl) | (apply w_assign; exact rfl; exact rfl) | apply AWp.seq | apply AWp.region | (apply AWp.condT; exact rfl) | apply AWp.ret | (apply w_skip; exact rfl) | (apply w_pickT; exact rfl; exact rfl; exact rfl) | omega | ((apply w_eql); iterate 3 exact rfl))
    all_goals exact .intbool Try.results27 rfl rfl rfl rfl
  · repeat' (first | (apply AOps.nil; try simp only [List.nil_append, List.cons_append, List.set_cons_zero, List.set_cons_succ, List.length_cons, List.length_nil, Nat.reduceAdd, AV.sh, AV.sh1, AV.sh0, AO.sh, List.map_cons, List.map_nil, Nat.zero_add, Nat.add_zero, setAll]) | ((apply AOps.splitP; exact rfl; exact rfl) <;> intro h) | (apply w_move; exact rfl; exact rfl) | (apply w_assign; exact rfl; exact rfl) | apply AWp.seq | apply AWp.region | ((apply AWp.condP; exact rfl) <;> intro h) | (apply AWp.condT; exact rfl) | apply AWp.ret | apply AWp.skip | (apply w_skip; exact rfl) | (apply w_pickT; exact rfl; exact rfl; exact rfl) | (apply w_pickF; exact rfl; exact rfl; exact rfl) | (apply w_call (ab1); exact rfl; exact rfl; focus ((repeat (first | exact im_nil | refine im_cons rfl (.val _) ?_)); done)) | (apply w_call (ab2); exact rfl; exact rfl; focus ((repeat (first | exact im_nil | refine im_cons rfl (.val _) ?_)); done)) | (apply w_call (hic); exact rfl; exact rfl; focus ((repeat (first | exact im_nil | refine im_cons rfl (.val _) ?_)); done)) | (rw [hdv]) | omega | ((first | apply w_gtr | apply w_eql | apply w_add | apply w_mul); iterate 3 exact rfl) | (apply w_quo; exact rfl; exact rfl; exact rfl; (focus (omega; done)); (focus (omega; done))) | (apply inI_of <;> omega))
    all_goals exact .intbool Try.results27 rfl rfl rfl rfl

/-! ### The quotient -/
def plc (b k : Nat) : List Int := if k = 0 then [] else if k ≤ b then [0] else [0, (b : Int)]
def rP (a : Nat) (f g : Ser) (j : Nat) : List Int := tab (a + 1) (Cy.mul (trF f j) g)
def rP1 (a : Nat) (f g : Ser) (i : Nat) : List Int := tab (a + 1) fun c => if c = i then Cy.mul (trF f i) g c else Cy.mul (trF f (i + 1)) g c
def oP (d : Nat) (f : Ser) (j : Nat) : List Int := tab (d + 1) fun c => if j ≤ c then f c else 0
theorem trF_xp (f : Ser) {b : Nat} (hb : 0 < b) (i c : Nat) : Cy.mul (trF f (i + 1)) (xp b) c = Cy.mul (trF f i) (xp b) c + (if c = i then -f i else if c = i + b then f i else 0) := by
  rw [trF_mul]
  congr 1
  by_cases h1 : c < i
  · rw [if_pos h1, if_neg (by omega), if_neg (by omega)]; omega
  · rw [if_neg h1, xp_at]
    by_cases h2 : c = i
    · subst h2; rw [if_pos (by omega), if_pos (by omega), if_pos rfl]; omega
    · rw [if_neg h2]
      by_cases h3 : c = i + b
      · subst h3
        rw [if_neg (by omega), if_pos (by omega), if_neg (by omega), if_pos rfl]; omega
      · rw [if_neg h3, if_neg (show ¬ c - i = 0 by omega)]
        split
        · omega
        · rw [if_neg (by omega)]; omega
theorem rP_step1 (a : Nat) (f : Ser) {b : Nat} (hb : 0 < b) (i : Nat) : (rP a f (xp b) (i + 1)).set i (Cy.mul (trF f i) (xp b) i) = rP1 a f (xp b) i := by
  unfold rP rP1
  rw [tab_set]
  refine tab_congr fun c _ => ?_
  by_cases e : c = i
  · subst e; rw [if_pos rfl]
  · rw [if_neg e, if_neg e]
theorem rP_step2 (a : Nat) (f : Ser) {b : Nat} (hb : 0 < b) (i : Nat) : (rP1 a f (xp b) i).set (i + b) (Cy.mul (trF f i) (xp b) (i + b)) = rP a f (xp b) i := by
  unfold rP rP1
  rw [tab_set]
  refine tab_congr fun c _ => ?_
  by_cases e : c = i + b
  · subst e; rw [if_pos rfl]
  · rw [if_neg e]
    by_cases e2 : c = i
    · rw [if_pos e2]
    · rw [if_neg e2, trF_xp f hb, if_neg e2, if_neg e]; omega
theorem rP_skip (a : Nat) (f : Ser) {b : Nat} (hb : 0 < b) (i : Nat) (h : f i = 0) : rP a f (xp b) (i + 1) = rP a f (xp b) i := tab_congr fun c _ => by
  rw [trF_xp f hb, h]; split <;> (try split) <;> omega
theorem oP_step (d : Nat) (f : Ser) (i : Nat) : (oP d f (i + 1)).set i (f i) = oP d f i := by
  unfold oP
  rw [tab_set]
  refine tab_congr fun c _ => ?_
  by_cases e : c = i
  · subst e; rw [if_pos rfl, if_pos (by omega)]
  · rw [if_neg e]
    by_cases h : i + 1 ≤ c
    · rw [if_pos h, if_pos (by omega)]
    · rw [if_neg h, if_neg (by omega)]
theorem oP_none (d : Nat) (f : Ser) : List.replicate (d + 1) (0 : Int) = oP d f (d + 1) := by
  rw [tab_rep]; exact tab_congr fun c hc => by rw [if_neg (by omega)]
theorem oP_all (d : Nat) (f : Ser) : oP d f 0 = tab (d + 1) f := tab_congr fun c _ => by rw [if_pos (by omega)]
theorem trF_bd {f : Ser} {B : Int} (h : ∀ n, -B ≤ f n ∧ f n ≤ B) (hB : 0 ≤ B) {b : Nat} (_hb : 0 < b) (i c : Nat) : -(2 * B) ≤ Cy.mul (trF f i) (xp b) c ∧ Cy.mul (trF f i) (xp b) c ≤ 2 * B := by
  have e := Cy.mul_xp b (trF f i) c
  rw [Cy.mul_neg] at e
  simp only [Cy.neg] at e
  have h1 : ∀ m, -B ≤ trF f i m ∧ trF f i m ≤ B := fun m => by
    unfold trF; split
    · exact h m
    · omega
  have a := h1 c
  have b := h1 (c - b)
  split at e <;> omega
end Go.Proofs.Ytkcbihmpjkkccaa
/-
  Quotients by binomials in the program. No condition but bounds.
-/
namespace Go.Proofs.Ytkcbihmpjkkccaa
open Go Go.RowKit
open Cy (Ser Pol Phi xp)
attribute [local irreducible] AWp AOps ResIs Ret1 QOp LOp COp AFnV AFn Imms LeE LeO
set_option maxHeartbeats 1000000
set_option linter.unusedSimpArgs false
set_option linter.unusedVariables false

def rZ (a : Nat) (f g : Ser) (i z : Nat) : List Int := if z = 0 then rP a f g (i + 1) else if z = 1 then rP1 a f g i else rP a f g i
theorem rZ_len (a : Nat) (f g : Ser) (i z : Nat) : (rZ a f g i z).length = a + 1 := by unfold rZ; split; exact tab_len _ _; split <;> exact tab_len _ _
set_option maxHeartbeats 16000000 in
theorem quotientOf_c (f : Ser) (b d : Nat) (hb : 1 ≤ b ∧ b ≤ 10000) (hd : d ≤ 10000) (hf : Pol d f) (hB : ∀ n, -10000 ≤ f n ∧ f n ≤ 10000) :
    AFn Try.prog 15 [.ints (tab (d + b + 1) (Cy.mul f (xp b))), .ints (tab (b + 1) (xp b))] (IsIC 2 (tab (d + 1) f) 0) := by
  obtain ⟨P, hP⟩ : ∃ P, P = tab (d + b + 1) (Cy.mul f (xp b)) := ⟨_, rfl⟩
  obtain ⟨Q, hQ⟩ : ∃ Q, Q = tab (b + 1) (xp b) := ⟨_, rfl⟩
  have lP : P.length = d + b + 1 := by rw [hP]; exact tab_len _ _
  have lQ : Q.length = b + 1 := by rw [hQ]; exact tab_len _ _
  have hqk : ∀ k : Nat, k < b + 1 → geti Q (k : Nat) = xp b k := fun k hk => by rw [hQ, tab_get _ hk]
  have hq0 : xp b 0 = -1 := Cy.xp_0 (by omega)
  have hqb : xp b b = 1 := (xp_pol (by omega)).2
  have hqz : ∀ k, k ≠ 0 → k ≠ b → xp b k = 0 := fun k h1 h2 => by
    rw [xp_at, if_neg h1]
    split
    · rfl
    · rw [if_neg (by omega)]; rfl
  rw [← hP, ← hQ]
  have hcl := clone_c P (by omega) (by omega)
  have hr0 : P = rP (d + b) f (xp b) (d + 1) := by
    rw [hP]
    unfold rP
    rw [trF_all hf (by omega)]
  have ho0 : List.replicate ((P.length : Int) - (Q.length : Int) + 1).toNat (0 : Int) = oP d f (d + 1) := by
    rw [← oP_none]; congr 1; omega
  have lrep : (List.replicate ((P.length : Int) - (Q.length : Int) + 1).toNat (0 : Int)).length = d + 1 := by rw [ho0]; exact tab_len _ _
  have hlast : geti Q ((Q.length : Int) - 1) = 1 := by
    have := hqk b (by omega)
    rw [show (Q.length : Int) - 1 = ((b : Nat) : Int) by omega, this, hqb]
  (refine AFn.start Try.func15 Try.ntmps15 rfl (by kernel_rfl) fun hk => ?_; simp only [Env.start, enumF, List.length_cons, List.length_nil, Nat.reduceAdd, Nat.reduceSub, List.cons_append, List.nil_append])
  repeat' (first | (apply AOps.nil; try simp only [List.nil_append, List.cons_append, List.set_cons_zero, List.set_cons_succ, List.length_cons, List.length_nil, Nat.reduceAdd, AV.sh, AV.sh1, AV.sh0, AO.sh, List.map_cons, List.map_nil, Nat.zero_add, Nat.add_zero, setAll]) | ((apply AOps.splitP; exact rfl; exact rfl) <;> intro h) | (apply w_move; exact rfl; exact rfl) | (apply w_assign; exact rfl; exact rfl) | apply AWp.seq | apply AWp.region | ((apply AWp.condP; exact rfl) <;> intro h) | (apply AWp.condT; exact rfl) | (apply AWp.condF; exact rfl) | apply AWp.block | apply AWp.ret | apply AWp.skip | (apply w_skip; exact rfl) | (apply w_pickT; exact rfl; exact rfl; exact rfl) | (apply w_pickF; exact rfl; exact rfl; exact rfl) | (apply w_len; exact rfl; exact rfl; first | exact .ints _ | exact .intss _ | exact .sli rfl | exact .sls rfl | exact .slr rfl | exact .orow rfl | exact .nil) | omega | ((first | apply w_lss | apply w_gtr | apply w_eql); iterate 3 exact rfl) | (apply w_bs0; iterate 1 exact rfl))
  refine AWp.loop (ι := Nat) (fun k => ⟨132, [(0, .ints P), (1, .ints Q), (6, .own 0), (39, .ints Q), (40, .i Q.length), (41, .i k)]⟩) (fun k => [.sli 3 (plc b k)]) (fun k => k ≤ b + 1) (fun k => b + 1 - k) 0 (by omega) ⟨lee rfl (by (repeat (first | exact le_nil | refine le_eq rfl rfl ?_))), by (repeat (first | exact lo_nil | refine lo_eq rfl ?_)), rfl, rfl⟩ ?_
  rintro k k0
  by_cases hk : k < b + 1
  · have hv := hqk k hk
    have hpl : (plc b k).length ≤ 2 := by unfold plc; split; simp; split <;> simp
    by_cases hk0 : k = 0
    · have hne : geti Q (k : Nat) ≠ 0 := by rw [hv, hk0, hq0]; decide
      have hs : plc b k ++ [(k : Int)] = plc b (k + 1) := by
        unfold plc
        rw [if_pos hk0, if_neg (by omega), if_pos (by omega), hk0]; rfl
      repeat' (first | (apply AOps.nil; try simp only [List.nil_append, List.cons_append, List.set_cons_zero, List.set_cons_succ, List.length_cons, List.length_nil, Nat.reduceAdd, AV.sh, AV.sh1, AV.sh0, AO.sh, List.map_cons, List.map_nil, Nat.zero_add, Nat.add_zero, setAll]) | (apply w_move; exact rfl; exact rfl) | (apply w_assign; exact rfl; exact rfl) | apply AWp.seq | apply AWp.region | ((apply AWp.condP; exact rfl) <;> intro h) | apply AWp.block | apply AWp.exit | apply AWp.skip | omega | ((first | apply w_lss | apply w_neq | apply w_add | apply w_idx | apply w_ld); iterate 3 exact rfl) | ((apply w_bs1); iterate 2 exact rfl) | (apply w_app; exact rfl; exact rfl; exact rfl; exact rfl; (exact .sli rfl); rotate_left 1; simp only [Env.mp, List.map_cons, List.map_nil, List.set_cons_zero, List.set_cons_succ, AV.kill, AV.kill1, AO.kill, AV.noRow, AV.noRow1, AO.via, reduceIte, Nat.reduceEqDiff, Nat.reduceLT, Env.up, Nat.zero_ne_one, Nat.one_ne_zero, Nat.reduceAdd, List.cons_append, List.nil_append]; rotate_left 1) | (apply inI_of <;> omega) | (simp <;> omega))
      exact ⟨k + 1, by omega, by omega, ⟨lee rfl (by (repeat (first | exact le_nil | refine le_eq rfl rfl ?_))), by (repeat (first | exact lo_nil | refine lo_eq (congrArg (AO.sli _) (hs)) ?_)), rfl, rfl⟩⟩
    · by_cases hkb : k = b
      · have hne : geti Q (k : Nat) ≠ 0 := by rw [hv, hkb, hqb]; decide
        have hs : plc b k ++ [(k : Int)] = plc b (k + 1) := by
          unfold plc
          rw [if_neg hk0, if_pos (by omega), if_neg (by omega), if_neg (by omega), hkb]; rfl
        repeat' (first | (apply AOps.nil; try simp only [List.nil_append, List.cons_append, List.set_cons_zero, List.set_cons_succ, List.length_cons, List.length_nil, Nat.reduceAdd, AV.sh, AV.sh1, AV.sh0, AO.sh, List.map_cons, List.map_nil, Nat.zero_add, Nat.add_zero, setAll]) | (apply w_move; exact rfl; exact rfl) | (apply w_assign; exact rfl; exact rfl) | apply AWp.seq | apply AWp.region | ((apply AWp.condP; exact rfl) <;> intro h) | apply AWp.block | apply AWp.exit | apply AWp.skip | omega | ((first | apply w_lss | apply w_neq | apply w_add | apply w_idx | apply w_ld); iterate 3 exact rfl) | ((apply w_bs1); iterate 2 exact rfl) | (apply w_app; exact rfl; exact rfl; exact rfl; exact rfl; (exact .sli rfl); rotate_left 1; simp only [Env.mp, List.map_cons, List.map_nil, List.set_cons_zero, List.set_cons_succ, AV.kill, AV.kill1, AO.kill, AV.noRow, AV.noRow1, AO.via, reduceIte, Nat.reduceEqDiff, Nat.reduceLT, Env.up, Nat.zero_ne_one, Nat.one_ne_zero, Nat.reduceAdd, List.cons_append, List.nil_append]; rotate_left 1) | (apply inI_of <;> omega) | (simp <;> omega))
        exact ⟨k + 1, by omega, by omega, ⟨lee rfl (by (repeat (first | exact le_nil | refine le_eq rfl rfl ?_))), by (repeat (first | exact lo_nil | refine lo_eq (congrArg (AO.sli _) (hs)) ?_)), rfl, rfl⟩⟩
      · have hne : geti Q (k : Nat) = 0 := by rw [hv, hqz k hk0 hkb]
        have hs : plc b k = plc b (k + 1) := by
          unfold plc
          rw [if_neg hk0, if_pos (by omega), if_neg (by omega), if_pos (by omega)]
        repeat' (first | (apply AOps.nil; try simp only [List.nil_append, List.cons_append, List.set_cons_zero, List.set_cons_succ, List.length_cons, List.length_nil, Nat.reduceAdd, AV.sh, AV.sh1, AV.sh0, AO.sh, List.map_cons, List.map_nil, Nat.zero_add, Nat.add_zero, setAll]) | (apply w_move; exact rfl; exact rfl) | (apply w_assign; exact rfl; exact rfl) | apply AWp.seq | apply AWp.region | ((apply AWp.condP; exact rfl) <;> intro h) | apply AWp.block | apply AWp.exit | apply AWp.skip | omega | ((first | apply w_lss | apply w_neq | apply w_add | apply w_idx | apply w_ld); iterate 3 exact rfl) | (apply inI_of <;> omega))
        exact ⟨k + 1, by omega, by omega, ⟨lee rfl (by (repeat (first | exact le_nil | refine le_eq rfl rfl ?_))), by (repeat (first | exact lo_nil | refine lo_eq (congrArg (AO.sli _) (hs)) ?_)), rfl, rfl⟩⟩
  have ek : k = b + 1 := by omega
  subst ek
  have hpl : plc b (b + 1) = [0, (b : Int)] := by unfold plc; rw [if_neg (by omega), if_neg (by omega)]
  rw [hpl]
  have l2 : ([0, (b : Int)] : List Int).length = 2 := rfl
  repeat' (first | (apply AOps.nil; try simp only [List.nil_append, List.cons_append, List.set_cons_zero, List.set_cons_succ, List.length_cons, List.length_nil, Nat.reduceAdd, AV.sh, AV.sh1, AV.sh0, AO.sh, List.map_cons, List.map_nil, Nat.zero_add, Nat.add_zero, setAll]) | (apply w_move; exact rfl; exact rfl) | (apply w_assign; exact rfl; exact rfl) | apply AWp.seq | apply AWp.region | ((apply AWp.condP; exact rfl) <;> intro h) | apply AWp.block | apply AWp.exit | apply AWp.skip | (apply w_len; exact rfl; exact rfl; first | exact .ints _ | exact .intss _ | exact .sli rfl | exact .sls rfl | exact .slr rfl | exact .orow rfl | exact .nil) | (apply w_callm (hcl); (focus ((repeat (first | exact im_nil | refine im_cons rfl (.ints _) ?_)); done)); rintro r os0 ⟨rfl, rfl⟩; try simp only [List.nil_append, List.cons_append, List.set_cons_zero, List.set_cons_succ, List.length_cons, List.length_nil, Nat.reduceAdd, AV.sh, AV.sh1, AV.sh0, AO.sh, List.map_cons, List.map_nil, Nat.zero_add, Nat.add_zero, setAll]) | omega | ((first | apply w_lss | apply w_add | apply w_sub | apply w_idx | apply w_ld); iterate 3 exact rfl) | (apply w_mki; exact rfl; exact rfl; rotate_left 3; exact rfl; rotate_left 1) | (apply inI_of <;> omega))
  refine AWp.loop (ι := Nat) (fun j => ⟨132, [(0, .ints P), (1, .ints Q), (6, .own 0), (9, .own 1), (10, .own 2), (11, .i 1), (12, .i ((j : Int) - 1))]⟩) (fun j => [.sli 3 [0, (b : Int)], .sli 2 (rP (d + b) f (xp b) j), .sli 2 (oP d f j)]) (fun j => j ≤ d + 1) (fun j => j) (d + 1) (by omega) ⟨lee rfl (by (repeat (first | exact le_nil | refine le_eq rfl rfl ?_ | refine le_eq rfl (congrArg AV.i (by omega)) ?_))), by (repeat (first | exact lo_nil | refine lo_eq rfl ?_ | refine lo_eq (congrArg (AO.sli _) (hr0)) ?_ | refine lo_eq (congrArg (AO.sli _) (ho0)) ?_)), rfl, rfl⟩ ?_
  rintro j j0
  by_cases hj : 0 < j
  · obtain ⟨i, rfl⟩ : ∃ i, j = i + 1 := ⟨j - 1, by omega⟩
    have ei : (((i + 1 : Nat) : Int) - 1) = (i : Int) := by omega
    rw [ei]
    have l1 : (rP (d + b) f (xp b) (i + 1)).length = d + b + 1 := tab_len _ _
    have l3 : (oP d f (i + 1)).length = d + 1 := tab_len _ _
    have hfi := hB i
    have r1 : geti (rP (d + b) f (xp b) (i + 1)) ((((i : Int) + (Q.length : Int) - 1).toNat : Nat) : Int) = f i := by
      rw [show ((i : Int) + (Q.length : Int) - 1).toNat = i + b by omega]
      unfold rP
      rw [tab_get _ (by omega), (trF_pol f i).lead (xp_pol (by omega)).1, hqb, Int.mul_one]
      unfold trF
      rw [if_pos (by omega)]
    have hz : (geti (rP (d + b) f (xp b) (i + 1)) ((((i : Int) + (Q.length : Int) - 1).toNat : Nat) : Int)).tmod 1 = 0 := Int.tmod_one _
    have hq : (geti (rP (d + b) f (xp b) (i + 1)) ((((i : Int) + (Q.length : Int) - 1).toNat : Nat) : Int)).tdiv 1 = f i := by rw [Int.tdiv_one, r1]
    have s1 : (oP d f (i + 1)).set (i : Int).toNat ((geti (rP (d + b) f (xp b) (i + 1)) ((((i : Int) + (Q.length : Int) - 1).toNat : Nat) : Int)).tdiv 1) = oP d f i := by
      rw [hq, Int.toNat_natCast]; exact oP_step d f i
    have hin : inI ((geti (rP (d + b) f (xp b) (i + 1)) ((((i : Int) + (Q.length : Int) - 1).toNat : Nat) : Int)).tdiv 1) := by rw [hq]; unfold inI; omega
    have l4 : (oP d f i).length = d + 1 := tab_len _ _
    by_cases hf0 : f i = 0
    · have s2 := rP_skip (d + b) f (b := b) (by omega) i hf0
      have s1 : (oP d f (i + 1)).set (i : Int).toNat ((geti (rP (d + b) f (xp b) (i + 1)) ((((i : Int) + (Q.length : Int) - 1).toNat : Nat) : Int)) / 1) = oP d f i := by
        rw [Int.ediv_one, r1, Int.toNat_natCast]; exact oP_step d f i
      have hin : inI ((geti (rP (d + b) f (xp b) (i + 1)) ((((i : Int) + (Q.length : Int) - 1).toNat : Nat) : Int)) / 1) := by rw [Int.ediv_one, r1]; unfold inI; omega
      repeat' (first | (apply AOps.nil; try simp only [List.nil_append, List.cons_append, List.set_cons_zero, List.set_cons_succ, List.length_cons, List.length_nil, Nat.reduceAdd, AV.sh, AV.sh1, AV.sh0, AO.sh, List.map_cons, List.map_nil, Nat.zero_add, Nat.add_zero, setAll]) | (apply w_move; exact rfl; exact rfl) | (apply w_assign; exact rfl; exact rfl) | apply AWp.seq | apply AWp.region | ((apply AWp.condP; exact rfl) <;> intro h) | apply AWp.block | apply AWp.ret | apply AWp.exit | apply AWp.skip | (apply w_len; exact rfl; exact rfl; first | exact .ints _ | exact .intss _ | exact .sli rfl | exact .sls rfl | exact .slr rfl | exact .orow rfl | exact .nil) | omega | ((first | apply w_geq | apply w_eql | apply w_neq | apply w_add | apply w_sub | apply w_idx | apply w_ld); iterate 3 exact rfl) | (apply w_rem; exact rfl; exact rfl; exact rfl; (focus (omega; done)); (focus (omega; done))) | (apply w_quo; exact rfl; exact rfl; exact rfl; (focus (omega; done)); (focus (omega; done))) | (apply w_idxo; exact rfl; exact rfl; (exact .sli rfl); exact rfl) | (apply w_ldo; iterate 4 exact rfl) | (apply w_sti; exact rfl; exact rfl; rotate_left 1; exact rfl; rotate_left 2) | (apply inI_of <;> omega))
      exact ⟨i, by omega, by omega, ⟨lee rfl (by (repeat (first | exact le_nil | refine le_eq rfl rfl ?_))), by (repeat (first | exact lo_nil | refine lo_eq rfl ?_ | refine lo_eq (congrArg (AO.sli _) (s1)) ?_ | refine lo_eq (congrArg (AO.sli _) (s2)) ?_)), rfl, rfl⟩⟩
    · repeat' (first | (apply AOps.nil; try simp only [List.nil_append, List.cons_append, List.set_cons_zero, List.set_cons_succ, List.length_cons, List.length_nil, Nat.reduceAdd, AV.sh, AV.sh1, AV.sh0, AO.sh, List.map_cons, List.map_nil, Nat.zero_add, Nat.add_zero, setAll]) | (apply w_move; exact rfl; exact rfl) | (apply w_assign; exact rfl; exact rfl) | apply AWp.seq | apply AWp.region | ((apply AWp.condP; exact rfl) <;> intro h) | apply AWp.block | apply AWp.ret | apply AWp.exit | apply AWp.skip | (apply w_len; exact rfl; exact rfl; first | exact .ints _ | exact .intss _ | exact .sli rfl | exact .sls rfl | exact .slr rfl | exact .orow rfl | exact .nil) | omega | ((first | apply w_geq | apply w_eql | apply w_neq | apply w_add | apply w_sub | apply w_idx | apply w_ld); iterate 3 exact rfl) | (apply w_remT; exact rfl; exact rfl; exact rfl) | (apply w_quoT; exact rfl; exact rfl; exact rfl) | (apply w_idxo; exact rfl; exact rfl; (exact .sli rfl); exact rfl) | (apply w_ldo; iterate 4 exact rfl) | (apply w_sti; exact rfl; exact rfl; rotate_left 1; exact rfl; rotate_left 2) | (apply inI_of <;> omega))
      refine AWp.loop (ι := Nat) (fun z => ⟨132, [(0, .ints P), (1, .ints Q), (6, .own 0), (9, .own 1), (10, .own 2), (11, .i 1), (12, .i i), (14, .i (f i)), (96, .own 0), (97, .i 2), (98, .i z)]⟩) (fun z => [.sli 3 [0, (b : Int)], .sli 2 (rZ (d + b) f (xp b) i z), .sli 2 (oP d f i)]) (fun z => z ≤ 2) (fun z => 2 - z) 0 (by omega) ⟨lee rfl (by (repeat (first | exact le_nil | refine le_eq rfl rfl ?_ | refine le_eq rfl (congrArg AV.i (by omega)) ?_))), by (repeat (first | exact lo_nil | refine lo_eq rfl ?_ | refine lo_eq (congrArg (AO.sli _) (s1)) ?_)), rfl, rfl⟩ ?_
      rintro z z0
      have lz := rZ_len (d + b) f (xp b) i z
      by_cases hz2 : z < 2
      · have bd1 := trF_bd (f := f) (B := 10000) hB (by omega) (b := b) (by omega) (i + 1)
        have bd0 := trF_bd (f := f) (B := 10000) hB (by omega) (b := b) (by omega) i
        obtain ⟨X, hX⟩ : ∃ X, X = geti [0, (b : Int)] (((z : Int).toNat : Nat) : Int) := ⟨_, rfl⟩
        have hcase : (z = 0 ∧ X = 0) ∨ (z = 1 ∧ X = b) := by
          by_cases h0 : z = 0
          · subst h0; exact .inl ⟨rfl, hX⟩
          · have : z = 1 := by omega
            subst this; exact .inr ⟨rfl, hX⟩
        have hX0 : 0 ≤ X ∧ X ≤ b := by omega
        have hv : geti (rZ (d + b) f (xp b) i z) ((((i : Int) + X).toNat : Nat) : Int) = Cy.mul (trF f (i + 1)) (xp b) (i + X.toNat) := by
          rcases hcase with ⟨h1, h2⟩ | ⟨h1, h2⟩
          · subst h1; subst h2
            rw [show ((i : Int) + 0).toNat = i + (0 : Int).toNat by omega]
            unfold rZ rP
            rw [if_pos rfl, tab_get _ (by omega)]
          · subst h1; subst h2
            rw [show ((i : Int) + (b : Int)).toNat = i + (b : Int).toNat by omega]
            unfold rZ rP1
            rw [if_neg (by omega), if_pos rfl, tab_get _ (by omega), if_neg (by omega)]
        have hqv : geti Q X = if z = 0 then -1 else 1 := by
          rcases hcase with ⟨h1, h2⟩ | ⟨h1, h2⟩
          · rw [h1, h2, if_pos rfl]; have := hqk 0 (by omega); rw [hq0] at this; exact this
          · rw [h1, h2, if_neg (by omega), hqk b (by omega), hqb]
        have hnew : Cy.mul (trF f (i + 1)) (xp b) (i + X.toNat) + (0 - f i) * (if z = 0 then -1 else 1) = Cy.mul (trF f i) (xp b) (i + X.toNat) := by
          rw [trF_xp f (by omega)]
          rcases hcase with ⟨h1, h2⟩ | ⟨h1, h2⟩
          · rw [if_pos h1, if_pos (show i + X.toNat = i by omega)]; omega
          · rw [if_neg (show ¬ z = 0 by omega), if_neg (show ¬ i + X.toNat = i by omega), if_pos (show i + X.toNat = i + b by omega)]; omega
        have hpp := plusProduct_c (geti (rZ (d + b) f (xp b) i z) ((((i : Int) + X).toNat : Nat) : Int)) (0 - f i) (geti Q X) (by rw [hv]; have := bd1 (i + X.toNat); omega) (by omega) (by rw [hqv]; split <;> omega) (by rw [hv, hqv, hnew]; have := bd0 (i + X.toNat); omega)
        have hs : (rZ (d + b) f (xp b) i z).set ((i : Int) + X).toNat (geti (rZ (d + b) f (xp b) i z) ((((i : Int) + X).toNat : Nat) : Int) + (0 - f i) * geti Q X) = rZ (d + b) f (xp b) i (z + 1) := by
          rw [hv, hqv, hnew, show ((i : Int) + X).toNat = i + X.toNat by omega]
          rcases hcase with ⟨h1, h2⟩ | ⟨h1, h2⟩
          · subst h1; subst h2
            exact rP_step1 (d + b) f (by omega) i
          · subst h1; subst h2
            exact rP_step2 (d + b) f (by omega) i
        have hin2 : inI (geti (rZ (d + b) f (xp b) i z) ((((i : Int) + X).toNat : Nat) : Int) + (0 - f i) * geti Q X) := by
          rw [hv, hqv, hnew]; have := bd0 (i + X.toNat); unfold inI; omega
        repeat' (first | (apply AOps.nil; try simp only [List.nil_append, List.cons_append, List.set_cons_zero, List.set_cons_succ, List.length_cons, List.length_nil, Nat.reduceAdd, AV.sh, AV.sh1, AV.sh0, AO.sh, List.map_cons, List.map_nil, Nat.zero_add, Nat.add_zero, setAll]) | (apply w_move; exact rfl; exact rfl) | (apply w_assign; exact rfl; exact rfl) | apply AWp.seq | apply AWp.region | ((apply AWp.condP; exact rfl) <;> intro h) | apply AWp.block | apply AWp.exit | apply AWp.skip | (rw [← hX]) | omega | ((first | apply w_lss | apply w_idx | apply w_ld); iterate 3 exact rfl) | (apply w_idxo; exact rfl; exact rfl; (exact .sli rfl); exact rfl) | (apply w_ldo; iterate 4 exact rfl))
        apply AWp.regionQ
        · kernel_rfl
        · kernel_rfl
        repeat' (first | (apply AOps.nil; try simp only [List.nil_append, List.cons_append, List.set_cons_zero, List.set_cons_succ, List.length_cons, List.length_nil, Nat.reduceAdd, AV.sh, AV.sh1, AV.sh0, AO.sh, List.map_cons, List.map_nil, Nat.zero_add, Nat.add_zero, setAll]) | (apply w_move; exact rfl; exact rfl) | (apply w_assign; exact rfl; exact rfl) | apply AWp.seq | apply AWp.region | (apply AWp.condF; exact rfl) | apply AWp.skip | (apply w_call (hpp); exact rfl; exact rfl; focus ((repeat (first | exact im_nil | refine im_cons rfl (.val _) ?_)); done)) | omega | ((first | apply w_add | apply w_idx | apply w_ld | apply w_extv); iterate 3 exact rfl) | ((first | apply w_not | apply w_neg); iterate 2 exact rfl) | (apply w_idxo; exact rfl; exact rfl; (exact .sli rfl); exact rfl) | (apply w_ldo; iterate 4 exact rfl) | (apply w_sti; exact rfl; exact rfl; rotate_left 1; exact rfl; rotate_left 2) | (apply inI_of <;> omega))
        exact ⟨z + 1, by omega, by omega, ⟨lee rfl (by (repeat (first | exact le_nil | refine le_eq rfl rfl ?_))), by (repeat (first | exact lo_nil | refine lo_eq rfl ?_ | refine lo_eq (congrArg (AO.sli _) (hs)) ?_)), rfl, rfl⟩⟩
      · have e : z = 2 := by omega
        subst e
        have hs : rZ (d + b) f (xp b) i 2 = rP (d + b) f (xp b) i := by unfold rZ; rw [if_neg (by omega), if_neg (by omega)]
        repeat' (first | (apply AOps.nil; try simp only [List.nil_append, List.cons_append, List.set_cons_zero, List.set_cons_succ, List.length_cons, List.length_nil, Nat.reduceAdd, AV.sh, AV.sh1, AV.sh0, AO.sh, List.map_cons, List.map_nil, Nat.zero_add, Nat.add_zero, setAll]) | (apply w_move; exact rfl; exact rfl) | (apply w_assign; exact rfl; exact rfl) | apply AWp.seq | apply AWp.region | ((apply AWp.condP; exact rfl) <;> intro h) | apply AWp.block | apply AWp.exit | apply AWp.skip | omega | ((first | apply w_lss | apply w_sub); iterate 3 exact rfl) | (apply inI_of <;> omega))
        exact ⟨i, by omega, by omega, ⟨lee rfl (by (repeat (first | exact le_nil | refine le_eq rfl rfl ?_))), by (repeat (first | exact lo_nil | refine lo_eq rfl ?_)), rfl, rfl⟩⟩
  · obtain rfl : j = 0 := by omega
    have l0 : (rP (d + b) f (xp b) 0).length = d + b + 1 := tab_len _ _
    have ht := trimmed_c 2 (rP (d + b) f (xp b) 0) (by omega)
    have htl : tlen (rP (d + b) f (xp b) 0) (rP (d + b) f (xp b) 0).length = 0 := tlen_zero _ (fun k hk => by
      unfold rP at hk ⊢
      rw [tab_len] at hk
      rw [tab_get _ hk, trF_zero, Cy.zero_mul]; rfl) _ (Nat.le_refl _)
    rw [htl] at ht
    rw [oP_all]
    repeat' (first | (apply AOps.nil; try simp only [List.nil_append, List.cons_append, List.set_cons_zero, List.set_cons_succ, List.length_cons, List.length_nil, Nat.reduceAdd, AV.sh, AV.sh1, AV.sh0, AO.sh, List.map_cons, List.map_nil, Nat.zero_add, Nat.add_zero, setAll]) | (apply w_move; exact rfl; exact rfl) | (apply w_assign; exact rfl; exact rfl) | apply AWp.seq | apply AWp.region | ((apply AWp.condP; exact rfl) <;> intro h) | apply AWp.block | apply AWp.ret | apply AWp.exit | apply AWp.skip | (apply w_len; exact rfl; exact rfl; first | exact .ints _ | exact .intss _ | exact .sli rfl | exact .sls rfl | exact .slr rfl | exact .orow rfl | exact .nil) | ((apply w_lenos); iterate 2 exact rfl) | (apply w_callr (ht); exact rfl; exact rfl) | omega | ((first | apply w_gtr | apply w_geq); iterate 3 exact rfl))
    exact ⟨_, _, _, .a2 Try.results15 rfl rfl, .tup2 (.sli rfl), rfl, rfl⟩
end Go.Proofs.Ytkcbihmpjkkccaa
/-
  The torus polynomial: the program, the reference and the law. No condition.
-/
namespace Go.Proofs.Ytkcbihmpjkkccaa
open Go Go.RowKit
open Cy (Ser Pol Phi xp)
attribute [local irreducible] AWp AOps ResIs Ret1 QOp LOp COp AFnV AFn Imms LeE LeO
set_option maxHeartbeats 1000000
set_option linter.unusedSimpArgs false
set_option linter.unusedVariables false

def tpE (p q : Int) : Int := if (1 ≤ p ∧ p ≤ 40) ∧ (1 ≤ q ∧ q ≤ 40) then (if Int.gcd p q = 1 then 0 else 5) else 2
noncomputable def tpV (p q : Int) : List Int := if (1 ≤ p ∧ p ≤ 40) ∧ (1 ≤ q ∧ q ≤ 40) ∧ Int.gcd p q = 1 then tab (p.toNat * (q.toNat - 1) + 1 - q.toNat + 1) (To p.toNat q.toNat) else []
theorem ser_small {n : Nat} {F : Ser} (h : Pol n F) (hb : ∀ k, -1000000 ≤ F k ∧ F k ≤ 1000000) : (tab (n + 1) fun c => wr (F c)) = tab (n + 1) F := tab_congr fun c _ => by
  have := hb c
  exact wr_of (by unfold inI; omega)
theorem implTorus_c (p q : Int) : AFn Try.prog 6 [.i p, .i q] (IsIC 2 (tpV p q) (tpE p q)) := by
  (refine AFn.start Try.func6 Try.ntmps6 rfl (by kernel_rfl) fun hk => ?_; simp only [Env.start, enumF, List.length_cons, List.length_nil, Nat.reduceAdd, Nat.reduceSub, List.cons_append, List.nil_append])
  by_cases hp : 1 ≤ p ∧ p ≤ 40
  · by_cases hq : 1 ≤ q ∧ q ≤ 40
    · have hd := divisor_c p q (by unfold mid; omega) (by unfold mid; omega)
      by_cases hg : Int.gcd p q = 1
      · have eE : tpE p q = 0 := by simp [tpE, hp, hq, hg]
        have eV : tpV p q = tab (p.toNat * (q.toNat - 1) + 1 - q.toNat + 1) (To p.toNat q.toNat) := by simp [tpV, hp, hq, hg]
        rw [hg] at hd
        obtain ⟨P, hP⟩ : ∃ P : Nat, p = P := ⟨p.toNat, by omega⟩
        obtain ⟨Q, hQ⟩ : ∃ Q : Nat, q = Q := ⟨q.toNat, by omega⟩
        subst hP; subst hQ
        rw [Int.toNat_natCast, Int.toNat_natCast] at eV
        have hc : Nat.Coprime P Q := by have := hg; exact this
        have hPQ : P * (Q - 1) + P = P * Q := by
          obtain ⟨k, rfl⟩ : ∃ k, Q = k + 1 := ⟨Q - 1, by omega⟩
          rw [Nat.add_sub_cancel, Nat.mul_succ]
        have hm : P * Q ≤ 40 * 40 := Nat.mul_le_mul (by omega) (by omega)
        have b1 := binomial_c (P * Q) (Nat.mul_pos (by omega) (by omega)) (by omega)
        rw [Int.natCast_mul] at b1
        have b2 := binomial_c P (by omega) (by omega)
        have b3 := binomial_c 1 (by omega) (by omega)
        have b4 := binomial_c Q (by omega) (by omega)
        have q1 := quotientOf_c (Ge P Q) P (P * (Q - 1)) (by omega) (by omega) (ge_pol (by omega) (by omega)).1 (fun n => by have := ge_bd P Q n; omega)
        rw [ge_xp (by omega) (by omega), hPQ] at q1
        obtain ⟨gx1, gx2⟩ := gx_pol (p := P) (q := Q) (by omega) (by omega)
        have pp := plainProduct_c (tab (P * (Q - 1) + 1) (Ge P Q)) (tab 2 (xp 1)) (by rw [tab_len]; omega) (by rw [tab_len]; omega)
        have hpm : pm (tab (P * (Q - 1) + 1) (Ge P Q)) (tab 2 (xp 1)) = tab (P * (Q - 1) + 1 + 1) (Cy.mul (Ge P Q) (xp 1)) := by
          have e1 := pm_tabw (ge_pol (p := P) (q := Q) (by omega) (by omega)).1 (xp_pol (n := 1) (by omega)).1
          rw [ser_small (ge_pol (p := P) (q := Q) (by omega) (by omega)).1 (fun k => by have := ge_bd P Q k; omega), ser_small (xp_pol (n := 1) (by omega)).1 (fun k => by rw [xp_at]; omega)] at e1
          rw [e1]
          exact ser_small gx1 (fun k => by have := gx_bd P Q k; omega)
        rw [hpm] at pp
        obtain ⟨t0, t1, t2⟩ := to_deg (p := P) (q := Q) (by omega) (by omega) hc (D := toD P Q (P * Q)) (by have := (toL_pol P Q (P * Q)).1; rwa [toL_all] at this)
        have q2 := quotientOf_c (To P Q) Q (P * (Q - 1) + 1 - Q) (by omega) (by omega) t1 (fun n => by
          by_cases hn : n ≤ P * (Q - 1) + 1 - Q
          · have := to_bd (p := P) (q := Q) (by omega) (by omega) hc n; omega
          · rw [t1 n (by omega)]; omega)
        rw [to_eq (by omega) (by omega) hc, show P * (Q - 1) + 1 - Q + Q + 1 = P * (Q - 1) + 1 + 1 by omega] at q2
        rw [eE, eV]
        repeat' (first | (apply AOps.nil; try simp only [List.nil_append, List.cons_append, List.set_cons_zero, List.set_cons_succ, List.length_cons, List.length_nil, Nat.reduceAdd, AV.sh, AV.sh1, AV.sh0, AO.sh, List.map_cons, List.map_nil, Nat.zero_add, Nat.add_zero, setAll]) | ((apply AOps.splitN; exact rfl; exact rfl) <;> intro h) | (apply w_move; exact rfl; exact rfl) | (apply w_assign; exact rfl; exact rfl) | apply AWp.seq | apply AWp.region | ((apply AWp.condP; exact rfl) <;> intro h) | ((apply AWp.condN; exact rfl) <;> intro h) | (apply AWp.condT; exact rfl) | apply AWp.ret | apply AWp.skip | (apply w_skip; exact rfl) | (apply w_pickT; exact rfl; exact rfl; exact rfl) | (apply w_pickF; exact rfl; exact rfl; exact rfl) | (apply w_call (inRange_c _ _ _); exact rfl; exact rfl; focus ((repeat (first | exact im_nil | refine im_cons rfl (.val _) ?_)); done)) | (apply w_call (hd); exact rfl; exact rfl; focus ((repeat (first | exact im_nil | refine im_cons rfl (.val _) ?_)); done)) | (apply w_callm (b1); (focus ((repeat (first | exact im_nil | refine im_cons rfl (.val _) ?_)); done)); rintro r os0 ⟨rfl, rfl⟩; try simp only [List.nil_append, List.cons_append, List.set_cons_zero, List.set_cons_succ, List.length_cons, List.length_nil, Nat.reduceAdd, AV.sh, AV.sh1, AV.sh0, AO.sh, List.map_cons, List.map_nil, Nat.zero_add, Nat.add_zero, setAll]) | (apply w_callm (b2); (focus ((repeat (first | exact im_nil | refine im_cons rfl (.val _) ?_)); done)); rintro r os0 ⟨rfl, rfl⟩; try simp only [List.nil_append, List.cons_append, List.set_cons_zero, List.set_cons_succ, List.length_cons, List.length_nil, Nat.reduceAdd, AV.sh, AV.sh1, AV.sh0, AO.sh, List.map_cons, List.map_nil, Nat.zero_add, Nat.add_zero, setAll]) | (apply w_callm (b3); (focus ((repeat (first | exact im_nil | refine im_cons rfl (.val _) ?_)); done)); rintro r os0 ⟨rfl, rfl⟩; try simp only [List.nil_append, List.cons_append, List.set_cons_zero, List.set_cons_succ, List.length_cons, List.length_nil, Nat.reduceAdd, AV.sh, AV.sh1, AV.sh0, AO.sh, List.map_cons, List.map_nil, Nat.zero_add, Nat.add_zero, setAll]) | (apply w_callm (b4); (focus ((repeat (first | exact im_nil | refine im_cons rfl (.val _) ?_)); done)); rintro r os0 ⟨rfl, rfl⟩; try simp only [List.nil_append, List.cons_append, List.set_cons_zero, List.set_cons_succ, List.length_cons, List.length_nil, Nat.reduceAdd, AV.sh, AV.sh1, AV.sh0, AO.sh, List.map_cons, List.map_nil, Nat.zero_add, Nat.add_zero, setAll]) | (apply w_callm (q1); (focus ((repeat (first | exact im_nil | refine im_cons rfl (.sli rfl) ?_)); done)); rintro r os0 ⟨rfl, rfl⟩; try simp only [List.nil_append, List.cons_append, List.set_cons_zero, List.set_cons_succ, List.length_cons, List.length_nil, Nat.reduceAdd, AV.sh, AV.sh1, AV.sh0, AO.sh, List.map_cons, List.map_nil, Nat.zero_add, Nat.add_zero, setAll]) | (apply w_callm (q2); (focus ((repeat (first | exact im_nil | refine im_cons rfl (.sli rfl) ?_)); done)); rintro r os0 ⟨rfl, rfl⟩; try simp only [List.nil_append, List.cons_append, List.set_cons_zero, List.set_cons_succ, List.length_cons, List.length_nil, Nat.reduceAdd, AV.sh, AV.sh1, AV.sh0, AO.sh, List.map_cons, List.map_nil, Nat.zero_add, Nat.add_zero, setAll]) | (apply w_callm (pp); (focus ((repeat (first | exact im_nil | refine im_cons rfl (.sli rfl) ?_)); done)); rintro r os0 ⟨rfl, rfl⟩; try simp only [List.nil_append, List.cons_append, List.set_cons_zero, List.set_cons_succ, List.length_cons, List.length_nil, Nat.reduceAdd, AV.sh, AV.sh1, AV.sh0, AO.sh, List.map_cons, List.map_nil, Nat.zero_add, Nat.add_zero, setAll]) | omega | ((first | apply w_gtr | apply w_neq | apply w_mul | apply w_extv); iterate 3 exact rfl) | ((apply w_ext); iterate 3 exact rfl) | ((apply w_not); iterate 2 exact rfl) | (apply inI_of <;> omega))
        all_goals exact ⟨_, _, _, .a2 Try.results6 rfl rfl, .tup2 (.sli rfl), rfl, rfl⟩
      · have eE : tpE p q = 5 := by simp [tpE, hp, hq, hg]
        have eV : tpV p q = [] := by simp [tpV, hg]
        have hg0 : 0 < Int.gcd p q := Int.gcd_pos_of_ne_zero_left _ (by omega)
        rw [eE, eV]
        repeat' (first | (apply AOps.nil; try simp only [List.nil_append, List.cons_append, List.set_cons_zero, List.set_cons_succ, List.length_cons, List.length_nil, Nat.reduceAdd, AV.sh, AV.sh1, AV.sh0, AO.sh, List.map_cons, List.map_nil, Nat.zero_add, Nat.add_zero, setAll]) | ((apply AOps.splitN; exact rfl; exact rfl) <;> intro h) | (apply w_move; exact rfl; exact rfl) | (apply w_assign; exact rfl; exact rfl) | apply AWp.seq | apply AWp.region | ((apply AWp.condP; exact rfl) <;> intro h) | ((apply AWp.condN; exact rfl) <;> intro h) | (apply AWp.condT; exact rfl) | apply AWp.ret | apply AWp.skip | (apply w_skip; exact rfl) | (apply w_pickT; exact rfl; exact rfl; exact rfl) | (apply w_pickF; exact rfl; exact rfl; exact rfl) | (apply w_call (inRange_c _ _ _); exact rfl; exact rfl; focus ((repeat (first | exact im_nil | refine im_cons rfl (.val _) ?_)); done)) | (apply w_call (hd); exact rfl; exact rfl; focus ((repeat (first | exact im_nil | refine im_cons rfl (.val _) ?_)); done)) | omega | ((apply w_gtr); iterate 3 exact rfl) | ((apply w_not); iterate 2 exact rfl))
        all_goals exact ⟨_, _, _, .a2 Try.results6 rfl rfl, .tup2 (.nil 2), rfl, rfl⟩
    · have eE : tpE p q = 2 := by simp [tpE, hq]
      have eV : tpV p q = [] := by simp only [tpV]; rw [if_neg (by omega)]
      rw [eE, eV]
      repeat' (first | (apply AOps.nil; try simp only [List.nil_append, List.cons_append, List.set_cons_zero, List.set_cons_succ, List.length_cons, List.length_nil, Nat.reduceAdd, AV.sh, AV.sh1, AV.sh0, AO.sh, List.map_cons, List.map_nil, Nat.zero_add, Nat.add_zero, setAll]) | ((apply AOps.splitN; exact rfl; exact rfl) <;> intro h) | (apply w_move; exact rfl; exact rfl) | (apply w_assign; exact rfl; exact rfl) | apply AWp.seq | apply AWp.region | ((apply AWp.condN; exact rfl) <;> intro h) | (apply AWp.condT; exact rfl) | apply AWp.ret | apply AWp.skip | (apply w_skip; exact rfl) | (apply w_pickT; exact rfl; exact rfl; exact rfl) | (apply w_pickF; exact rfl; exact rfl; exact rfl) | (apply w_call (inRange_c _ _ _); exact rfl; exact rfl; focus ((repeat (first | exact im_nil | refine im_cons rfl (.val _) ?_)); done)) | omega | ((apply w_not); iterate 2 exact rfl))
      all_goals exact ⟨_, _, _, .a2 Try.results6 rfl rfl, .tup2 (.nil 2), rfl, rfl⟩
  · have eE : tpE p q = 2 := by simp [tpE, hp]
    have eV : tpV p q = [] := by simp only [tpV]; rw [if_neg (by omega)]
    rw [eE, eV]
    repeat' (first | (apply AOps.nil; try simp only [List.nil_append, List.cons_append, List.set_cons_zero, List.set_cons_succ, List.length_cons, List.length_nil, Nat.reduceAdd, AV.sh, AV.sh1, AV.sh0, AO.sh, List.map_cons, List.map_nil, Nat.zero_add, Nat.add_zero, setAll]) | ((apply AOps.splitN; exact rfl; exact rfl) <;> intro h) | (apply w_move; exact rfl; exact rfl) | (apply w_assign; exact rfl; exact rfl) | apply AWp.seq | apply AWp.region | (apply AWp.condT; exact rfl) | apply AWp.ret | (apply w_skip; exact rfl) | (apply w_pickT; exact rfl; exact rfl; exact rfl) | (apply w_call (inRange_c _ _ _); exact rfl; exact rfl; focus ((repeat (first | exact im_nil | refine im_cons rfl (.val _) ?_)); done)) | omega | ((apply w_not); iterate 2 exact rfl))
    all_goals exact ⟨_, _, _, .a2 Try.results6 rfl rfl, .tup2 (.nil 2), rfl, rfl⟩
theorem toD_le (p q M : Nat) : ∀ k, k ≤ M → toD p q k ≤ k * M
  | 0, _ => by simp [toD]
  | k + 1, h => by
    have ih := toD_le p q M k (by omega)
    have ht := tot_pos (n := k + 1) (by omega)
    rw [toD, Nat.succ_mul]
    split
    · have : Cy.tot (k + 1) ≤ k + 1 := ht.2
      omega
    · omega
noncomputable def toW (p q k : Nat) : List Int := tab (toD p q k + 1) fun c => wr (toL p q k c)
theorem toW_zero (p q : Nat) : [(1 : Int)] = toW p q 0 := by
  unfold toW
  rw [toD, toL]
  show [(1 : Int)] = [wr (Cy.one 0)]
  rw [show Cy.one 0 = 1 from rfl, wr_small (by omega)]
theorem toW_step {p q k : Nat} (h : (k + 1) ∣ p * q ∧ toB p q (k + 1) = true) : pm (toW p q k) (phiW (k + 1)) = toW p q (k + 1) := by
  unfold toW phiW
  obtain ⟨c, d, _⟩ := Cy.phi_deg (k + 1) (by omega)
  have e := pm_tabw (toL_pol p q k).1 c
  rw [toL, toD, if_pos h, if_pos h]
  exact e
theorem toW_skip {p q k : Nat} (h : ¬ ((k + 1) ∣ p * q ∧ toB p q (k + 1) = true)) : toW p q k = toW p q (k + 1) := by
  unfold toW
  rw [toL, toD, if_neg h, if_neg h]
theorem toW_all {p q : Nat} (hp : 0 < p ∧ p ≤ 40) (hq : 0 < q ∧ q ≤ 40) (hc : Nat.Coprime p q) : toW p q (p * q) = tab (p * (q - 1) + 1 - q + 1) (To p q) := by
  unfold toW
  rw [toL_all, toD_all hp.1 hq.1 hc]
  have hm : p * (q - 1) ≤ 40 * 40 := Nat.mul_le_mul hp.2 (by omega)
  obtain ⟨t0, t1, t2⟩ := to_deg hp.1 hq.1 hc (D := toD p q (p * q)) (by have := (toL_pol p q (p * q)).1; rwa [toL_all] at this)
  exact ser_small t1 fun n => by
    by_cases hn : n ≤ p * (q - 1) + 1 - q
    · have := to_bd hp.1 hq.1 hc n; omega
    · rw [t1 n (by omega)]; omega
set_option maxHeartbeats 4000000 in
theorem specTorus_c (p q : Int) : AFn Try.prog 7 [.i p, .i q] (IsIC 2 (tpV p q) (tpE p q)) := by
  (refine AFn.start Try.func7 Try.ntmps7 rfl (by kernel_rfl) fun hk => ?_; simp only [Env.start, enumF, List.length_cons, List.length_nil, Nat.reduceAdd, Nat.reduceSub, List.cons_append, List.nil_append])
  by_cases hp : 1 ≤ p ∧ p ≤ 40
  · by_cases hq : 1 ≤ q ∧ q ≤ 40
    · have hd := l01Gcd_c p q (by unfold mid; omega) (by unfold mid; omega)
      by_cases hg : Int.gcd p q = 1
      · have eE : tpE p q = 0 := by simp [tpE, hp, hq, hg]
        have eV : tpV p q = tab (p.toNat * (q.toNat - 1) + 1 - q.toNat + 1) (To p.toNat q.toNat) := by simp [tpV, hp, hq, hg]
        rw [hg] at hd
        obtain ⟨P, hP⟩ : ∃ P : Nat, p = P := ⟨p.toNat, by omega⟩
        obtain ⟨Q, hQ⟩ : ∃ Q : Nat, q = Q := ⟨q.toNat, by omega⟩
        subst hP; subst hQ
        rw [Int.toNat_natCast, Int.toNat_natCast] at eV
        have hc : Nat.Coprime P Q := by have := hg; exact this
        rw [← toW_all (by omega) (by omega) hc] at eV
        have hm : P * Q ≤ 40 * 40 := Nat.mul_le_mul (by omega) (by omega)
        have hmI : ((P * Q : Nat) : Int) = (P : Int) * (Q : Int) := Int.natCast_mul _ _
        have hone := toW_zero P Q
        rw [eE, eV]
        repeat' (first | (apply AOps.nil; try simp only [List.nil_append, List.cons_append, List.set_cons_zero, List.set_cons_succ, List.length_cons, List.length_nil, Nat.reduceAdd, AV.sh, AV.sh1, AV.sh0, AO.sh, List.map_cons, List.map_nil, Nat.zero_add, Nat.add_zero, setAll]) | ((apply AOps.splitN; exact rfl; exact rfl) <;> intro h) | (apply w_move; exact rfl; exact rfl) | (apply w_assign; exact rfl; exact rfl) | apply AWp.seq | apply AWp.region | ((apply AWp.condP; exact rfl) <;> intro h) | ((apply AWp.condN; exact rfl) <;> intro h) | (apply AWp.condT; exact rfl) | apply AWp.block | apply AWp.ret | apply AWp.skip | (apply w_skip; exact rfl) | (apply w_pickT; exact rfl; exact rfl; exact rfl) | (apply w_pickF; exact rfl; exact rfl; exact rfl) | (apply w_call (l01In_c _ _ _); exact rfl; exact rfl; focus ((repeat (first | exact im_nil | refine im_cons rfl (.val _) ?_)); done)) | (apply w_call (hd); exact rfl; exact rfl; focus ((repeat (first | exact im_nil | refine im_cons rfl (.val _) ?_)); done)) | omega | ((apply w_neq); iterate 3 exact rfl) | ((first | apply w_not | apply w_bs1); iterate 2 exact rfl) | (apply inI_of <;> omega))
        refine AWp.loopS (ι := Nat) (fun k => ⟨53, [(0, .i P), (1, .i Q), (6, .own 0), (7, .i ((k : Int) + 1))]⟩) (fun k => [.sli 2 (toW P Q k)]) (fun k => k ≤ P * Q) (fun k => P * Q - k) 0 (by omega) ⟨lee rfl (by (repeat (first | exact le_nil | refine le_eq rfl rfl ?_))), by (repeat (first | exact lo_nil | refine lo_eq rfl ?_)), rfl, rfl⟩ ?_
        rintro k k0
        have hlw : (toW P Q k).length = toD P Q k + 1 := tab_len _ _
        have hlb := toD_le P Q 1600 k (by omega)
        have c0 : (((P * Q) % (k + 1) : Nat) : Int) = ((P : Int) * (Q : Int)) % ((k : Int) + 1) := by rw [Int.natCast_emod, Int.natCast_mul]; rfl
        have c1 : ((P % (k + 1) : Nat) : Int) = (P : Int) % ((k : Int) + 1) := Int.natCast_emod _ _
        have c2 : ((Q % (k + 1) : Nat) : Int) = (Q : Int) % ((k : Int) + 1) := Int.natCast_emod _ _
        by_cases hk : k < P * Q
        · have cy := l02Cyclotomic_c (k + 1) (by omega) (by omega)
          have hph := phiW_len (n := k + 1) (by omega) (by omega)
          rw [Int.natCast_add, Int.natCast_one] at cy
          have ct := l14Times_c (toW P Q k) (phiW (k + 1)) (by omega) (by omega)
          by_cases d0 : (P * Q) % (k + 1) = 0
          · by_cases d1 : P % (k + 1) = 0
            · have hst := toW_skip (p := P) (q := Q) (k := k) (fun h => by have := Nat.dvd_of_mod_eq_zero d1; simp [toB, this] at h)
              repeat' (first | (apply AOps.nil; try simp only [List.nil_append, List.cons_append, List.set_cons_zero, List.set_cons_succ, List.length_cons, List.length_nil, Nat.reduceAdd, AV.sh, AV.sh1, AV.sh0, AO.sh, List.map_cons, List.map_nil, Nat.zero_add, Nat.add_zero, setAll]) | ((apply AOps.splitP; exact rfl; exact rfl) <;> intro h) | (apply w_move; exact rfl; exact rfl) | (apply w_assign; exact rfl; exact rfl) | apply AWp.seq | apply AWp.region | ((apply AWp.condP; exact rfl) <;> intro h) | (apply AWp.condF; exact rfl) | apply AWp.block | apply AWp.ret | apply AWp.exit | apply AWp.skip | (apply w_skip; exact rfl) | (apply w_pickT; exact rfl; exact rfl; exact rfl) | (apply w_pickF; exact rfl; exact rfl; exact rfl) | omega | ((first | apply w_leq | apply w_eql | apply w_neq | apply w_add | apply w_mul); iterate 3 exact rfl) | (apply w_rem; exact rfl; exact rfl; exact rfl; (focus (omega; done)); (focus (omega; done))) | (apply inI_of <;> omega))
              exact ⟨k + 1, by omega, by omega, .inl ⟨lee rfl (by (repeat (first | exact le_nil | refine le_eq rfl rfl ?_))), by (repeat (first | exact lo_nil | refine lo_eq (congrArg (AO.sli _) (hst)) ?_)), rfl, rfl⟩⟩
            · by_cases d2 : Q % (k + 1) = 0
              · have hst := toW_skip (p := P) (q := Q) (k := k) (fun h => by have := Nat.dvd_of_mod_eq_zero d2; simp [toB, this] at h)
                repeat' (first | (apply AOps.nil; try simp only [List.nil_append, List.cons_append, List.set_cons_zero, List.set_cons_succ, List.length_cons, List.length_nil, Nat.reduceAdd, AV.sh, AV.sh1, AV.sh0, AO.sh, List.map_cons, List.map_nil, Nat.zero_add, Nat.add_zero, setAll]) | ((apply AOps.splitP; exact rfl; exact rfl) <;> intro h) | (apply w_move; exact rfl; exact rfl) | (apply w_assign; exact rfl; exact rfl) | apply AWp.seq | apply AWp.region | ((apply AWp.condP; exact rfl) <;> intro h) | (apply AWp.condF; exact rfl) | apply AWp.block | apply AWp.ret | apply AWp.exit | apply AWp.skip | (apply w_skip; exact rfl) | (apply w_pickT; exact rfl; exact rfl; exact rfl) | (apply w_pickF; exact rfl; exact rfl; exact rfl) | (apply w_callm (cy); (focus ((repeat (first | exact im_nil | refine im_cons rfl (.val _) ?_)); done)); rintro r os0 ⟨rfl, rfl⟩; try simp only [List.nil_append, List.cons_append, List.set_cons_zero, List.set_cons_succ, List.length_cons, List.length_nil, Nat.reduceAdd, AV.sh, AV.sh1, AV.sh0, AO.sh, List.map_cons, List.map_nil, Nat.zero_add, Nat.add_zero, setAll]) | (apply w_callm (ct); (focus ((repeat (first | exact im_nil | refine im_cons rfl (.sli rfl) ?_)); done)); rintro r os0 ⟨rfl, rfl⟩; try simp only [List.nil_append, List.cons_append, List.set_cons_zero, List.set_cons_succ, List.length_cons, List.length_nil, Nat.reduceAdd, AV.sh, AV.sh1, AV.sh0, AO.sh, List.map_cons, List.map_nil, Nat.zero_add, Nat.add_zero, setAll]) | omega | ((first | apply w_leq | apply w_eql | apply w_neq | apply w_add | apply w_mul); iterate 3 exact rfl) | (apply w_rem; exact rfl; exact rfl; exact rfl; (focus (omega; done)); (focus (omega; done))) | (apply inI_of <;> omega))
                exact ⟨k + 1, by omega, by omega, .inl ⟨lee rfl (by (repeat (first | exact le_nil | refine le_eq rfl rfl ?_))), by (repeat (first | exact lo_nil | refine lo_eq (congrArg (AO.sli _) (hst)) ?_)), rfl, rfl⟩⟩
              · have hst := toW_step (p := P) (q := Q) (k := k) ⟨Nat.dvd_of_mod_eq_zero d0, by simp only [toB, Bool.and_eq_true, decide_eq_true_eq]; exact ⟨fun h => d1 (Nat.mod_eq_zero_of_dvd h), fun h => d2 (Nat.mod_eq_zero_of_dvd h)⟩⟩
                repeat' (first | (apply AOps.nil; try simp only [List.nil_append, List.cons_append, List.set_cons_zero, List.set_cons_succ, List.length_cons, List.length_nil, Nat.reduceAdd, AV.sh, AV.sh1, AV.sh0, AO.sh, List.map_cons, List.map_nil, Nat.zero_add, Nat.add_zero, setAll]) | ((apply AOps.splitP; exact rfl; exact rfl) <;> intro h) | (apply w_move; exact rfl; exact rfl) | (apply w_assign; exact rfl; exact rfl) | apply AWp.seq | apply AWp.region | ((apply AWp.condP; exact rfl) <;> intro h) | (apply AWp.condF; exact rfl) | apply AWp.block | apply AWp.ret | apply AWp.exit | apply AWp.skip | (apply w_skip; exact rfl) | (apply w_pickT; exact rfl; exact rfl; exact rfl) | (apply w_pickF; exact rfl; exact rfl; exact rfl) | (apply w_callm (cy); (focus ((repeat (first | exact im_nil | refine im_cons rfl (.val _) ?_)); done)); rintro r os0 ⟨rfl, rfl⟩; try simp only [List.nil_append, List.cons_append, List.set_cons_zero, List.set_cons_succ, List.length_cons, List.length_nil, Nat.reduceAdd, AV.sh, AV.sh1, AV.sh0, AO.sh, List.map_cons, List.map_nil, Nat.zero_add, Nat.add_zero, setAll]) | (apply w_callm (ct); (focus ((repeat (first | exact im_nil | refine im_cons rfl (.sli rfl) ?_)); done)); rintro r os0 ⟨rfl, rfl⟩; try simp only [List.nil_append, List.cons_append, List.set_cons_zero, List.set_cons_succ, List.length_cons, List.length_nil, Nat.reduceAdd, AV.sh, AV.sh1, AV.sh0, AO.sh, List.map_cons, List.map_nil, Nat.zero_add, Nat.add_zero, setAll]) | omega | ((first | apply w_leq | apply w_eql | apply w_neq | apply w_add | apply w_mul); iterate 3 exact rfl) | (apply w_rem; exact rfl; exact rfl; exact rfl; (focus (omega; done)); (focus (omega; done))) | (apply inI_of <;> omega))
                rw [hst]
                refine ⟨k + 1, by omega, by omega, ?_⟩
                (apply Or.inr; refine ⟨[2], ⟨by decide, fun x hx => Nat.lt_of_lt_of_le ((by decide : ∀ x ∈ ([2] : List Nat), x < 3) x hx) (Nat.le_of_ble_eq_true rfl)⟩, lee rfl ?_, ?_, rfl, rfl⟩; (focus ((repeat (first | exact le_nil | refine le_eq rfl rfl ?_)); done)); (focus ((repeat (first | exact lo_nil | refine lo_eq rfl ?_)); done)))
          · have hst := toW_skip (p := P) (q := Q) (k := k) (fun h => d0 (Nat.mod_eq_zero_of_dvd h.1))
            repeat' (first | (apply AOps.nil; try simp only [List.nil_append, List.cons_append, List.set_cons_zero, List.set_cons_succ, List.length_cons, List.length_nil, Nat.reduceAdd, AV.sh, AV.sh1, AV.sh0, AO.sh, List.map_cons, List.map_nil, Nat.zero_add, Nat.add_zero, setAll]) | ((apply AOps.splitP; exact rfl; exact rfl) <;> intro h) | (apply w_move; exact rfl; exact rfl) | (apply w_assign; exact rfl; exact rfl) | apply AWp.seq | apply AWp.region | ((apply AWp.condP; exact rfl) <;> intro h) | (apply AWp.condF; exact rfl) | apply AWp.block | apply AWp.ret | apply AWp.exit | apply AWp.skip | (apply w_skip; exact rfl) | (apply w_pickF; exact rfl; exact rfl; exact rfl) | omega | ((first | apply w_leq | apply w_eql | apply w_add | apply w_mul); iterate 3 exact rfl) | (apply w_rem; exact rfl; exact rfl; exact rfl; (focus (omega; done)); (focus (omega; done))) | (apply inI_of <;> omega))
            exact ⟨k + 1, by omega, by omega, .inl ⟨lee rfl (by (repeat (first | exact le_nil | refine le_eq rfl rfl ?_))), by (repeat (first | exact lo_nil | refine lo_eq (congrArg (AO.sli _) (hst)) ?_)), rfl, rfl⟩⟩
        · obtain rfl : k = P * Q := by omega
          repeat' (first | (apply AOps.nil; try simp only [List.nil_append, List.cons_append, List.set_cons_zero, List.set_cons_succ, List.length_cons, List.length_nil, Nat.reduceAdd, AV.sh, AV.sh1, AV.sh0, AO.sh, List.map_cons, List.map_nil, Nat.zero_add, Nat.add_zero, setAll]) | (apply w_move; exact rfl; exact rfl) | (apply w_assign; exact rfl; exact rfl) | apply AWp.seq | apply AWp.region | ((apply AWp.condP; exact rfl) <;> intro h) | apply AWp.block | apply AWp.ret | apply AWp.exit | apply AWp.skip | omega | ((first | apply w_leq | apply w_mul); iterate 3 exact rfl) | (apply inI_of <;> omega))
          exact ⟨_, _, _, .a2 Try.results7 rfl rfl, .tup2 (.sli rfl), rfl, rfl⟩
      · have eE : tpE p q = 5 := by simp [tpE, hp, hq, hg]
        have eV : tpV p q = [] := by simp [tpV, hg]
        have hg0 : 0 < Int.gcd p q := Int.gcd_pos_of_ne_zero_left _ (by omega)
        rw [eE, eV]
        repeat' (first | (apply AOps.nil; try simp only [List.nil_append, List.cons_append, List.set_cons_zero, List.set_cons_succ, List.length_cons, List.length_nil, Nat.reduceAdd, AV.sh, AV.sh1, AV.sh0, AO.sh, List.map_cons, List.map_nil, Nat.zero_add, Nat.add_zero, setAll]) | ((apply AOps.splitN; exact rfl; exact rfl) <;> intro h) | (apply w_move; exact rfl; exact rfl) | (apply w_assign; exact rfl; exact rfl) | apply AWp.seq | apply AWp.region | ((apply AWp.condP; exact rfl) <;> intro h) | ((apply AWp.condN; exact rfl) <;> intro h) | (apply AWp.condT; exact rfl) | apply AWp.block | apply AWp.ret | apply AWp.skip | (apply w_skip; exact rfl) | (apply w_pickT; exact rfl; exact rfl; exact rfl) | (apply w_pickF; exact rfl; exact rfl; exact rfl) | (apply w_call (l01In_c _ _ _); exact rfl; exact rfl; focus ((repeat (first | exact im_nil | refine im_cons rfl (.val _) ?_)); done)) | (apply w_call (hd); exact rfl; exact rfl; focus ((repeat (first | exact im_nil | refine im_cons rfl (.val _) ?_)); done)) | omega | ((apply w_neq); iterate 3 exact rfl) | ((apply w_not); iterate 2 exact rfl))
        all_goals exact ⟨_, _, _, .a2 Try.results7 rfl rfl, .tup2 (.nil 2), rfl, rfl⟩
    · have eE : tpE p q = 2 := by simp [tpE, hq]
      have eV : tpV p q = [] := by simp only [tpV]; rw [if_neg (by omega)]
      rw [eE, eV]
      repeat' (first | (apply AOps.nil; try simp only [List.nil_append, List.cons_append, List.set_cons_zero, List.set_cons_succ, List.length_cons, List.length_nil, Nat.reduceAdd, AV.sh, AV.sh1, AV.sh0, AO.sh, List.map_cons, List.map_nil, Nat.zero_add, Nat.add_zero, setAll]) | ((apply AOps.splitN; exact rfl; exact rfl) <;> intro h) | (apply w_move; exact rfl; exact rfl) | (apply w_assign; exact rfl; exact rfl) | apply AWp.seq | apply AWp.region | ((apply AWp.condN; exact rfl) <;> intro h) | (apply AWp.condT; exact rfl) | apply AWp.block | apply AWp.ret | (apply w_skip; exact rfl) | (apply w_pickT; exact rfl; exact rfl; exact rfl) | (apply w_pickF; exact rfl; exact rfl; exact rfl) | (apply w_call (l01In_c _ _ _); exact rfl; exact rfl; focus ((repeat (first | exact im_nil | refine im_cons rfl (.val _) ?_)); done)) | omega | ((apply w_not); iterate 2 exact rfl))
      all_goals exact ⟨_, _, _, .a2 Try.results7 rfl rfl, .tup2 (.nil 2), rfl, rfl⟩
  · have eE : tpE p q = 2 := by simp [tpE, hp]
    have eV : tpV p q = [] := by simp only [tpV]; rw [if_neg (by omega)]
    rw [eE, eV]
    repeat' (first | (apply AOps.nil; try simp only [List.nil_append, List.cons_append, List.set_cons_zero, List.set_cons_succ, List.length_cons, List.length_nil, Nat.reduceAdd, AV.sh, AV.sh1, AV.sh0, AO.sh, List.map_cons, List.map_nil, Nat.zero_add, Nat.add_zero, setAll]) | ((apply AOps.splitN; exact rfl; exact rfl) <;> intro h) | (apply w_move; exact rfl; exact rfl) | (apply w_assign; exact rfl; exact rfl) | apply AWp.seq | apply AWp.region | (apply AWp.condT; exact rfl) | apply AWp.block | apply AWp.ret | (apply w_skip; exact rfl) | (apply w_pickT; exact rfl; exact rfl; exact rfl) | (apply w_call (l01In_c _ _ _); exact rfl; exact rfl; focus ((repeat (first | exact im_nil | refine im_cons rfl (.val _) ?_)); done)) | omega | ((apply w_not); iterate 2 exact rfl))
    all_goals exact ⟨_, _, _, .a2 Try.results7 rfl rfl, .tup2 (.nil 2), rfl, rfl⟩
theorem tpV_len (p q : Int) : (tpV p q).length ≤ 1602 := by
  unfold tpV
  split
  · rename_i h
    rw [tab_len]
    have : p.toNat * (q.toNat - 1) ≤ 40 * 40 := Nat.mul_le_mul (by omega) (by omega)
    omega
  · simp
end Go.Proofs.Ytkcbihmpjkkccaa
/-
  The characteristic polynomial of a branch with two terms is the torus polynomial: the plain law. Condition: bounds that a table gives.
-/
namespace Go.Proofs.Ytkcbihmpjkkccaa
open Go Go.RowKit
open Cy (Ser Pol Phi divs pr xp Un)

abbrev TqE := Nat × Nat × List (Nat × List (Nat × Nat))
def tqP (n : Nat) : List Nat → List (Nat × List (Nat × Nat)) → Bool
  | _, [] => true
  | S, r :: R => tqB n (S ++ [r.1]) r.2 && tqP n (S ++ [r.1]) R
def tqS (R : List (Nat × List (Nat × Nat))) : List Nat := R.map Prod.fst
def tqN (S : List Nat) : List (List Int) := S.map fun (d : Nat) => [((d : Nat) : Int), 1]
def tqZ (a b : Nat) : List (List Int) := [[(a : Int), 1], [(b : Int), 1], [((a * b : Nat) : Int), -1]]
def tqC (e : TqE) : Bool :=
  decide (2 ≤ e.1 ∧ e.1 < e.2.1 ∧ e.2.1 ≤ 40) && Nat.gcd e.1 e.2.1 == 1 && (divs (e.1 * e.2.1)).filter (toB e.1 e.2.1) == tqS e.2.2 &&
  (numZ (tqZ e.1 e.2.1) 3).filter (fun r => decide (geti r 1 ≠ 0)) == tqN (tqS e.2.2) && tqP (e.1 * e.2.1) [] e.2.2

theorem isBr_two {a b : Nat} (h : 2 ≤ a ∧ a < b ∧ b ≤ 40) (hg : Nat.gcd a b = 1) : isBr [(a : Int), (b : Int)] = true := by
  have g1 : gd [(a : Int), (b : Int)] 1 = a := by
    show ((Int.gcd 0 (a : Int) : Nat) : Int) = a
    simp
  have g2 : gd [(a : Int), (b : Int)] 2 = 1 := by
    show ((Int.gcd (gd [(a : Int), (b : Int)] 1) (b : Int) : Nat) : Int) = 1
    rw [g1]
    show ((Nat.gcd a b : Nat) : Int) = 1
    rw [hg]; rfl
  have e1 : decide (Asc [(a : Int), (b : Int)]) = true := decide_eq_true fun i hi hl => by
    have : i = 1 := by simp at hl; omega
    subst this
    show (a : Int) < b
    omega
  have e2 : decide (Fal [(a : Int), (b : Int)]) = true := decide_eq_true ⟨fun i hi hl => by
    have : i = 1 := by simp at hl; omega
    subst this
    rw [g1, g2]; omega, g2⟩
  have e3 : withinL [(a : Int), (b : Int)] 1 2000 = true := by
    unfold withinL
    simp only [List.all_cons, List.all_nil, Bool.and_true, Bool.and_eq_true, decide_eq_true_eq]
    omega
  unfold isBr
  rw [e1, e2, e3]
  simp [geti]; omega
theorem zb_two {a b : Nat} (h : 2 ≤ a ∧ a < b ∧ b ≤ 40) (hg : Nat.gcd a b = 1) : zbL [(a : Int), (b : Int)] = tqZ a b := by
  have g1 : gd [(a : Int), (b : Int)] 1 = a := by
    show ((Int.gcd 0 (a : Int) : Nat) : Int) = a
    simp
  have g2 : gd [(a : Int), (b : Int)] 2 = 1 := by
    show ((Int.gcd (gd [(a : Int), (b : Int)] 1) (b : Int) : Nat) : Int) = 1
    rw [g1]
    show ((Nat.gcd a b : Nat) : Int) = 1
    rw [hg]; rfl
  have w : wZ [(a : Int), (b : Int)] 1 = b := by
    show wZ [(a : Int), (b : Int)] 0 * nR _ 0 * nR _ 1 + cT [(a : Int), (b : Int)] 1 / gd [(a : Int), (b : Int)] 2 = b
    rw [g2, Int.ediv_one]
    show 0 * nR _ 0 * nR _ 1 + (b : Int) = b
    omega
  have n1 : nR [(a : Int), (b : Int)] 1 = a := by
    unfold nR
    rw [g1, g2, Int.ediv_one]
  have hm : b < a * b := by
    have := Nat.mul_le_mul_right b h.1
    omega
  have p1 : putZ [[(a : Int), 1]] (b : Int) 1 = [[(a : Int), 1], [(b : Int), 1]] := by
    have hi : zIdx [[(a : Int), 1]] b = 1 := zIdx_eq (by simp) (fun k hk => by
      have : k = 0 := by omega
      subst this; show (a : Int) < b; omega) (.inl rfl)
    unfold putZ; rw [hi]; simp
  have p2 : putZ [[(a : Int), 1], [(b : Int), 1]] ((a : Int) * b) (-1) = tqZ a b := by
    have hi : zIdx [[(a : Int), 1], [(b : Int), 1]] ((a : Int) * b) = 2 := zIdx_eq (by simp) (fun k hk => by
      rw [← Int.natCast_mul]
      match k, hk with
      | 0, _ => show (a : Int) < _; omega
      | 1, _ => show (b : Int) < _; omega) (.inl rfl)
    unfold putZ; rw [hi]; simp [tqZ]
  have e : zbF [(a : Int), (b : Int)] 1 = tqZ a b := by
    show putZ (putZ [[geti [(a : Int), (b : Int)] 0, 1]] (wZ _ 1 * gd _ 2) 1) (nR _ 1 * wZ _ 1 * gd _ 2) (-1) = _
    rw [w, g2, n1, Int.mul_one, Int.mul_one]
    show putZ (putZ [[(a : Int), 1]] (b : Int) 1) ((a : Int) * b) (-1) = _
    rw [p1, p2]
  show nzL (zbF [(a : Int), (b : Int)] 1) (zbF [(a : Int), (b : Int)] 1).length = _
  rw [e]
  rfl

theorem chR_one (f o : List Int) (h : PlOk (pm o f)) : chR f 1 o = some (pm o f) := by
  rw [chR, if_pos h, chR]
theorem tq_chain {n : Nat} (hn : 0 < n) : ∀ (R : List (Nat × List (Nat × Nat))) (S : List Nat) (d : Nat), tqP n S R = true → Pol d (pr S Phi) → pr S Phi d = 1 →
    ∃ d', chL (tqN (tqS R)) (tab (d + 1) fun c => wr (pr S Phi c)) = some (tab (d' + 1) fun c => wr (pr (S ++ tqS R) Phi c)) ∧ Pol d' (pr (S ++ tqS R) Phi) ∧ pr (S ++ tqS R) Phi d' = 1
  | [], S, d, _, h1, h2 => ⟨d, by
      rw [show S ++ tqS [] = S by simp [tqS]]; rfl, by rw [show S ++ tqS [] = S by simp [tqS]]; exact h1, by rw [show S ++ tqS [] = S by simp [tqS]]; exact h2⟩
  | r :: R, S, d, h, h1, h2 => by
    rw [tqP, Bool.and_eq_true] at h
    obtain ⟨ha, hb⟩ := h
    have hr0 : 0 < r.1 := by
      have hc := ha
      unfold tqB at hc
      simp only [Bool.and_eq_true, List.all_eq_true, beq_iff_eq] at hc
      have := hc.1.1.1.2 r.1 (by simp)
      rcases Nat.eq_zero_or_pos r.1 with hz | hz
      · rw [hz, Nat.mod_zero] at this; omega
      · exact hz
    obtain ⟨c1, c2, _⟩ := Cy.phi_deg r.1 hr0
    have e1 : pr (S ++ [r.1]) Phi = Cy.mul (pr S Phi) (Phi r.1) := by rw [Cy.pr_append, Cy.pr_cons, Cy.pr_nil, Cy.mul_one]
    have k1 : Pol (d + Cy.tot r.1) (pr (S ++ [r.1]) Phi) := by rw [e1]; exact h1.mul c1
    have k2 : pr (S ++ [r.1]) Phi (d + Cy.tot r.1) = 1 := by rw [e1, h1.lead c1, h2, c2]; rfl
    obtain ⟨t1, t2⟩ := tq_ok hn ha k1 k2
    have epm : pm (tab (d + 1) fun c => wr (pr S Phi c)) (phiW r.1) = tab (d + Cy.tot r.1 + 1) fun c => wr (pr (S ++ [r.1]) Phi c) := by
      unfold phiW
      rw [pm_tabw h1 c1, e1]
    have hw : ∀ c, wr (pr (S ++ [r.1]) Phi c) = pr (S ++ [r.1]) Phi c := fun c => wr_of (by have := t2 c; unfold inI; omega)
    have hok : PlOk (pm (tab (d + 1) fun c => wr (pr S Phi c)) (phiW r.1)) := by
      rw [epm]
      unfold PlOk
      rw [tab_len]
      refine ⟨⟨by omega, .inr ?_⟩, fun k hk => ?_⟩
      · rw [show ((d + Cy.tot r.1 + 1 : Nat) : Int) - 1 = ((d + Cy.tot r.1 : Nat) : Int) by omega, tab_get _ (by omega), hw, k2]
        decide
      · rw [tab_get _ hk, hw]; exact t2 k
    obtain ⟨d', f1, f2, f3⟩ := tq_chain hn R (S ++ [r.1]) (d + Cy.tot r.1) hb k1 k2
    have es : S ++ [r.1] ++ tqS R = S ++ tqS (r :: R) := by simp [tqS]
    rw [es] at f1 f2 f3
    refine ⟨d', ?_, f2, f3⟩
    have ec : tqN (tqS (r :: R)) = [(r.1 : Int), 1] :: tqN (tqS R) := rfl
    rw [ec]
    show (match chR (phiW (geti [(r.1 : Int), 1] 0).toNat) (geti [(r.1 : Int), 1] 1).toNat _ with
      | some o' => chL (tqN (tqS R)) o'
      | none => none) = _
    have g0 : (geti [(r.1 : Int), 1] 0).toNat = r.1 := rfl
    have g1 : (geti [(r.1 : Int), 1] 1).toNat = 1 := rfl
    rw [g0, g1, chR_one _ _ hok, epm]
    exact f1
theorem pol_uniq {f : Ser} {a b : Nat} (h1 : Pol a f) (h2 : f a = 1) (h3 : Pol b f) (h4 : f b = 1) : a = b := by
  rcases Nat.lt_trichotomy a b with h | h | h
  · have := h1 b h; omega
  · exact h
  · have := h3 a h; omega

/-- The polynomial of a branch with two terms. -/
theorem pb_two {e : TqE} (h : tqC e = true) : pbE [(e.1 : Int), (e.2.1 : Int)] = 0 ∧ pbV [(e.1 : Int), (e.2.1 : Int)] = tpV e.1 e.2.1 := by
  obtain ⟨a, b, R⟩ := e
  unfold tqC at h
  simp only [Bool.and_eq_true, beq_iff_eq, decide_eq_true_eq] at h
  obtain ⟨⟨⟨⟨h1, h2⟩, h3⟩, h4⟩, h5⟩ := h
  simp only at *
  have hn : 0 < a * b := Nat.mul_pos (by omega) (by omega)
  have hbr := isBr_two h1 h2
  have hz := zb_two h1 h2
  have hiz := zb_isZ (brF hbr)
  rw [hz] at hiz
  have ez : ezL (tqZ a b) = tqN (tqS R) := by
    rw [ezL_eq hiz]
    unfold nzL
    rw [List.take_length]
    exact h4
  have cE : cpE (tqZ a b) = 0 := by
    unfold cpE
    rw [if_pos hiz, if_pos]
    rw [ez]
    intro k hk
    have hl : k < (tqS R).length := by unfold tqN at hk; rwa [List.length_map] at hk
    have : (tqN (tqS R)).getD k [] = [((tqS R)[k] : Int), 1] := by
      unfold tqN
      rw [List.getD_eq_getElem?_getD, List.getElem?_map, List.getElem?_eq_getElem hl]; rfl
    rw [this]
    show (0 : Int) ≤ 1
    omega
  have cL : cpL (tqZ a b) = tqN (tqS R) := by rw [cpL_of cE, ez]
  have hs : ¬ 1 - zsum (tqZ a b) (tqZ a b).length > 2000 := by
    show ¬ 1 - (0 + (a : Int) * 1 + (b : Int) * 1 + ((a * b : Nat) : Int) * (-1)) > 2000
    have : a * b ≤ 40 * 40 := Nat.mul_le_mul (by omega) (by omega)
    omega
  have p0 : Pol 0 (pr [] Phi) := fun n hn => by
    have h1 : n ≠ 0 := by omega
    show Cy.one n = 0
    simp [Cy.one, h1]
  obtain ⟨d', f1, f2, f3⟩ := tq_chain hn R [] 0 h5 p0 rfl
  rw [List.nil_append] at f1 f2 f3
  have e0 : (tab (0 + 1) fun c => wr (pr [] Phi c)) = [(1 : Int)] := by
    show [wr (Cy.one 0)] = [1]
    rw [show Cy.one 0 = 1 from rfl, wr_small (by omega)]
  rw [e0] at f1
  have eT : pr (tqS R) Phi = To a b := by rw [← h3]; rfl
  rw [eT] at f1 f2 f3
  have hc : Nat.Coprime a b := h2
  obtain ⟨t0, t1, t2⟩ := to_deg (by omega) (by omega) hc f2
  have hd := pol_uniq f2 f3 t1 t2
  have hmul : a * (b - 1) ≤ 40 * 40 := Nat.mul_le_mul (by omega) (by omega)
  have hwr : (tab (d' + 1) fun c => wr (To a b c)) = tab (d' + 1) (To a b) := ser_small f2 fun k => by
    by_cases hk : k ≤ d'
    · have := to_bd (p := a) (q := b) (by omega) (by omega) hc k; omega
    · rw [f2 k (by omega)]; omega
  have ev : tpV (a : Int) (b : Int) = tab (a * (b - 1) + 1 - b + 1) (To a b) := by
    have hg : Int.gcd (a : Int) (b : Int) = 1 := h2
    unfold tpV
    rw [if_pos ⟨⟨by omega, by omega⟩, ⟨by omega, by omega⟩, hg⟩, Int.toNat_natCast, Int.toNat_natCast]
  have zo : zoL [(a : Int), (b : Int)] = tqZ a b := by unfold zoL; rw [if_pos hbr, hz]
  constructor
  · unfold pbE
    rw [if_pos hbr, zo]
    unfold chE
    rw [if_pos cE, if_neg hs, cL, f1]
  · unfold pbV
    rw [if_pos hbr, zo]
    unfold chV
    rw [if_pos cE, if_neg hs, cL, f1]
    show tab (d' + 1) _ = _
    rw [hwr, hd, ev]
theorem tpV_comm (p q : Nat) (hp : 1 ≤ p) (hq : 1 ≤ q) : tpV (p : Int) q = tpV (q : Int) p := by
  unfold tpV
  have hT : To p q = To q p := by
    unfold To
    rw [Nat.mul_comm p q]
    congr 1
    refine List.filter_congr fun x _ => ?_
    unfold toB
    rw [Bool.and_comm]
  have hl : p * (q - 1) + 1 - q + 1 = q * (p - 1) + 1 - p + 1 := by
    rw [Nat.mul_sub, Nat.mul_sub, Nat.mul_one, Nat.mul_one, Nat.mul_comm q p]
    have h1 : p ≤ p * q := Nat.le_mul_of_pos_right _ hq
    have h2 : q ≤ p * q := Nat.le_mul_of_pos_left _ hp
    omega
  simp only [Int.toNat_natCast]
  rw [hT, hl, Int.gcd_comm]
  by_cases h : (1 ≤ (p : Int) ∧ (p : Int) ≤ 40) ∧ (1 ≤ (q : Int) ∧ (q : Int) ≤ 40) ∧ Int.gcd (q : Int) p = 1
  · rw [if_pos h, if_pos ⟨h.2.1, h.1, h.2.2⟩]
  · rw [if_neg h, if_neg fun g => h ⟨g.2.1, g.1, g.2.2⟩]
theorem tpV_one (q : Nat) (hq : 1 ≤ q ∧ q ≤ 40) : tpV 1 (q : Int) = [1] := by
  unfold tpV
  have hg : Int.gcd 1 (q : Int) = 1 := by simp
  rw [if_pos ⟨⟨by omega, by omega⟩, ⟨by omega, by omega⟩, hg⟩]
  have e1 : (1 : Int).toNat = 1 := rfl
  rw [e1, Int.toNat_natCast, show 1 * (q - 1) + 1 - q + 1 = 1 by omega]
  show [To 1 q 0] = [1]
  unfold To
  have : (divs (1 * q)).filter (toB 1 q) = [] := by
    rw [List.filter_eq_nil_iff]
    intro x hx
    rw [Nat.one_mul, Cy.mem_divs (by omega)] at hx
    unfold toB
    simp [hx]
  rw [this]; rfl
end Go.Proofs.Ytkcbihmpjkkccaa
/-
  Pairs of numbers, the divisors of their product that divide neither, and binomials over binomials for the products of the first ones. A table.
-/
namespace Go.Proofs.Ytkcbihmpjkkccaa
open Go Go.RowKit

def tqT0 : List TqE := [(2, 3, [(6, [(1, 0), (6, 3), (0, 2)])]),
  (2, 5, [(10, [(1, 0), (10, 5), (0, 2)])]),
  (2, 7, [(14, [(1, 0), (14, 7), (0, 2)])]),
  (2, 9, [(6, [(1, 0), (6, 3), (0, 2)]), (18, [(1, 0), (18, 9), (0, 2)])]),
  (2, 11, [(22, [(1, 0), (22, 11), (0, 2)])]),
  (2, 13, [(26, [(1, 0), (26, 13), (0, 2)])]),
  (2, 31, [(62, [(1, 0), (62, 31), (0, 2)])]),
  (2, 33, [(6, [(1, 0), (6, 3), (0, 2)]), (22, [(1, 0), (1, 0), (22, 11), (6, 3), (0, 2), (0, 2)]), (66, [(1, 0), (66, 33), (0, 2)])]),
  (2, 35, [(10, [(1, 0), (10, 5), (0, 2)]), (14, [(1, 0), (1, 0), (14, 7), (10, 5), (0, 2), (0, 2)]), (70, [(1, 0), (70, 35), (0, 2)])]),
  (2, 37, [(74, [(1, 0), (74, 37), (0, 2)])]),
  (2, 39, [(6, [(1, 0), (6, 3), (0, 2)]), (26, [(1, 0), (1, 0), (26, 13), (6, 3), (0, 2), (0, 2)]), (78, [(1, 0), (78, 39), (0, 2)])])]
theorem tqT0_ok : tqT0.all tqC = true := by decide +kernel
def tqT1 : List TqE := [(3, 4, [(6, [(1, 0), (6, 3), (0, 2)]), (12, [(1, 0), (12, 4), (0, 3)])]),
  (3, 5, [(15, [(1, 0), (15, 5), (0, 3)])]),
  (3, 7, [(21, [(1, 0), (21, 7), (0, 3)])]),
  (3, 8, [(6, [(1, 0), (6, 3), (0, 2)]), (12, [(1, 0), (12, 4), (0, 3)]), (24, [(1, 0), (24, 8), (0, 3)])]),
  (3, 10, [(6, [(1, 0), (6, 3), (0, 2)]), (15, [(1, 0), (1, 0), (15, 5), (6, 3), (0, 3), (0, 2)]), (30, [(1, 0), (30, 10), (0, 3)])]),
  (3, 11, [(33, [(1, 0), (33, 11), (0, 3)])]),
  (3, 13, [(39, [(1, 0), (39, 13), (0, 3)])]),
  (3, 14, [(6, [(1, 0), (6, 3), (0, 2)]), (21, [(1, 0), (1, 0), (21, 7), (6, 3), (0, 3), (0, 2)]), (42, [(1, 0), (42, 14), (0, 3)])]),
  (3, 31, [(93, [(1, 0), (93, 31), (0, 3)])]),
  (3, 32, [(6, [(1, 0), (6, 3), (0, 2)]), (12, [(1, 0), (12, 4), (0, 3)]), (24, [(1, 0), (24, 8), (0, 3)]), (48, [(1, 0), (48, 16), (0, 3)]), (96, [(1, 0), (96, 32), (0, 3)])]),
  (3, 34, [(6, [(1, 0), (6, 3), (0, 2)]), (51, [(1, 0), (1, 0), (51, 17), (6, 3), (0, 3), (0, 2)]), (102, [(1, 0), (102, 34), (0, 3)])])]
theorem tqT1_ok : tqT1.all tqC = true := by decide +kernel
def tqT2 : List TqE := [(3, 35, [(15, [(1, 0), (15, 5), (0, 3)]), (21, [(1, 0), (1, 0), (21, 7), (15, 5), (0, 3), (0, 3)]), (105, [(1, 0), (105, 35), (0, 3)])]),
  (3, 37, [(111, [(1, 0), (111, 37), (0, 3)])]),
  (3, 38, [(6, [(1, 0), (6, 3), (0, 2)]), (57, [(1, 0), (1, 0), (57, 19), (6, 3), (0, 3), (0, 2)]), (114, [(1, 0), (114, 38), (0, 3)])]),
  (3, 40, [(6, [(1, 0), (6, 3), (0, 2)]), (12, [(1, 0), (12, 4), (0, 3)]), (15, [(1, 0), (1, 0), (15, 5), (12, 4), (0, 3), (0, 3)]), (24, [(1, 0), (1, 0), (24, 8), (15, 5), (0, 3), (0, 3)]), (30, [(1, 0), (2, 0), (30, 10), (24, 8), (0, 6), (0, 3)]), (60, [(1, 0), (4, 0), (60, 20), (24, 12), (0, 8), (0, 3)]), (120, [(1, 0), (120, 40), (0, 3)])]),
  (4, 5, [(10, [(1, 0), (10, 5), (0, 2)]), (20, [(1, 0), (20, 5), (0, 4)])]),
  (4, 7, [(14, [(1, 0), (14, 7), (0, 2)]), (28, [(1, 0), (28, 7), (0, 4)])]),
  (4, 9, [(6, [(1, 0), (6, 3), (0, 2)]), (12, [(1, 0), (12, 4), (0, 3)]), (18, [(1, 0), (18, 9), (12, 6), (0, 4)]), (36, [(1, 0), (36, 9), (0, 4)])]),
  (4, 11, [(22, [(1, 0), (22, 11), (0, 2)]), (44, [(1, 0), (44, 11), (0, 4)])]),
  (4, 13, [(26, [(1, 0), (26, 13), (0, 2)]), (52, [(1, 0), (52, 13), (0, 4)])]),
  (4, 31, [(62, [(1, 0), (62, 31), (0, 2)]), (124, [(1, 0), (124, 31), (0, 4)])]),
  (4, 33, [(6, [(1, 0), (6, 3), (0, 2)]), (12, [(1, 0), (12, 4), (0, 3)]), (22, [(1, 0), (1, 0), (22, 11), (12, 4), (0, 3), (0, 2)]), (44, [(1, 0), (1, 0), (44, 11), (12, 4), (0, 4), (0, 3)]), (66, [(1, 0), (2, 0), (66, 33), (44, 22), (12, 6), (0, 4), (0, 4)]), (132, [(1, 0), (132, 33), (0, 4)])])]
theorem tqT2_ok : tqT2.all tqC = true := by decide +kernel
def tqT3 : List TqE := [(4, 35, [(10, [(1, 0), (10, 5), (0, 2)]), (14, [(1, 0), (1, 0), (14, 7), (10, 5), (0, 2), (0, 2)]), (20, [(1, 0), (1, 0), (14, 7), (20, 5), (0, 4), (0, 2)]), (28, [(1, 0), (1, 0), (28, 7), (20, 5), (0, 4), (0, 4)]), (70, [(1, 0), (2, 0), (70, 35), (28, 14), (20, 10), (0, 4), (0, 4)]), (140, [(1, 0), (140, 35), (0, 4)])]),
  (4, 37, [(74, [(1, 0), (74, 37), (0, 2)]), (148, [(1, 0), (148, 37), (0, 4)])]),
  (4, 39, [(6, [(1, 0), (6, 3), (0, 2)]), (12, [(1, 0), (12, 4), (0, 3)]), (26, [(1, 0), (1, 0), (26, 13), (12, 4), (0, 3), (0, 2)]), (52, [(1, 0), (1, 0), (52, 13), (12, 4), (0, 4), (0, 3)]), (78, [(1, 0), (2, 0), (78, 39), (52, 26), (12, 6), (0, 4), (0, 4)]), (156, [(1, 0), (156, 39), (0, 4)])]),
  (5, 6, [(10, [(1, 0), (10, 5), (0, 2)]), (15, [(1, 0), (1, 0), (10, 5), (15, 5), (0, 3), (0, 2)]), (30, [(1, 0), (30, 6), (0, 5)])]),
  (5, 7, [(35, [(1, 0), (35, 7), (0, 5)])]),
  (5, 8, [(10, [(1, 0), (10, 5), (0, 2)]), (20, [(1, 0), (20, 5), (0, 4)]), (40, [(1, 0), (40, 8), (0, 5)])]),
  (5, 9, [(15, [(1, 0), (15, 5), (0, 3)]), (45, [(1, 0), (45, 9), (0, 5)])]),
  (5, 11, [(55, [(1, 0), (55, 11), (0, 5)])]),
  (5, 12, [(10, [(1, 0), (10, 5), (0, 2)]), (15, [(1, 0), (1, 0), (10, 5), (15, 5), (0, 3), (0, 2)]), (20, [(1, 0), (1, 0), (15, 5), (20, 5), (0, 4), (0, 3)]), (30, [(1, 0), (2, 0), (20, 10), (30, 6), (0, 5), (0, 4)]), (60, [(1, 0), (60, 12), (0, 5)])]),
  (5, 13, [(65, [(1, 0), (65, 13), (0, 5)])]),
  (5, 14, [(10, [(1, 0), (10, 5), (0, 2)]), (35, [(1, 0), (1, 0), (35, 7), (10, 5), (0, 5), (0, 2)]), (70, [(1, 0), (70, 14), (0, 5)])])]
theorem tqT3_ok : tqT3.all tqC = true := by decide +kernel
def tqT4 : List TqE := [(5, 31, [(155, [(1, 0), (155, 31), (0, 5)])]),
  (5, 32, [(10, [(1, 0), (10, 5), (0, 2)]), (20, [(1, 0), (20, 5), (0, 4)]), (40, [(1, 0), (40, 8), (0, 5)]), (80, [(1, 0), (80, 16), (0, 5)]), (160, [(1, 0), (160, 32), (0, 5)])]),
  (5, 33, [(15, [(1, 0), (15, 5), (0, 3)]), (55, [(1, 0), (1, 0), (55, 11), (15, 5), (0, 5), (0, 3)]), (165, [(1, 0), (165, 33), (0, 5)])]),
  (5, 34, [(10, [(1, 0), (10, 5), (0, 2)]), (85, [(1, 0), (1, 0), (85, 17), (10, 5), (0, 5), (0, 2)]), (170, [(1, 0), (170, 34), (0, 5)])]),
  (5, 36, [(10, [(1, 0), (10, 5), (0, 2)]), (15, [(1, 0), (1, 0), (10, 5), (15, 5), (0, 3), (0, 2)]), (20, [(1, 0), (1, 0), (15, 5), (20, 5), (0, 4), (0, 3)]), (30, [(1, 0), (2, 0), (20, 10), (30, 6), (0, 5), (0, 4)]), (45, [(1, 0), (2, 0), (3, 0), (30, 15), (20, 10), (45, 9), (0, 6), (0, 5), (0, 4)]), (60, [(1, 0), (3, 0), (45, 15), (60, 12), (0, 9), (0, 5)]), (90, [(1, 0), (6, 0), (60, 30), (90, 18), (0, 12), (0, 5)]), (180, [(1, 0), (180, 36), (0, 5)])]),
  (5, 37, [(185, [(1, 0), (185, 37), (0, 5)])]),
  (5, 38, [(10, [(1, 0), (10, 5), (0, 2)]), (95, [(1, 0), (1, 0), (95, 19), (10, 5), (0, 5), (0, 2)]), (190, [(1, 0), (190, 38), (0, 5)])]),
  (5, 39, [(15, [(1, 0), (15, 5), (0, 3)]), (65, [(1, 0), (1, 0), (65, 13), (15, 5), (0, 5), (0, 3)]), (195, [(1, 0), (195, 39), (0, 5)])]),
  (6, 7, [(14, [(1, 0), (14, 7), (0, 2)]), (21, [(1, 0), (1, 0), (14, 7), (21, 7), (0, 3), (0, 2)]), (42, [(1, 0), (42, 7), (0, 6)])]),
  (6, 11, [(22, [(1, 0), (22, 11), (0, 2)]), (33, [(1, 0), (1, 0), (22, 11), (33, 11), (0, 3), (0, 2)]), (66, [(1, 0), (66, 11), (0, 6)])]),
  (6, 13, [(26, [(1, 0), (26, 13), (0, 2)]), (39, [(1, 0), (1, 0), (26, 13), (39, 13), (0, 3), (0, 2)]), (78, [(1, 0), (78, 13), (0, 6)])])]
theorem tqT4_ok : tqT4.all tqC = true := by decide +kernel
def tqT5 : List TqE := [(6, 31, [(62, [(1, 0), (62, 31), (0, 2)]), (93, [(1, 0), (1, 0), (62, 31), (93, 31), (0, 3), (0, 2)]), (186, [(1, 0), (186, 31), (0, 6)])]),
  (6, 35, [(10, [(1, 0), (10, 5), (0, 2)]), (14, [(1, 0), (1, 0), (14, 7), (10, 5), (0, 2), (0, 2)]), (15, [(1, 0), (1, 0), (1, 0), (14, 7), (10, 5), (15, 5), (0, 3), (0, 2), (0, 2)]), (21, [(1, 0), (1, 0), (1, 0), (1, 0), (14, 7), (21, 7), (10, 5), (15, 5), (0, 3), (0, 3), (0, 2), (0, 2)]), (30, [(1, 0), (1, 0), (1, 0), (14, 7), (21, 7), (30, 6), (0, 5), (0, 3), (0, 2)]), (42, [(1, 0), (1, 0), (42, 7), (30, 6), (0, 6), (0, 5)]), (70, [(1, 0), (2, 0), (70, 35), (42, 14), (30, 10), (0, 6), (0, 6)]), (105, [(2, 0), (3, 0), (5, 0), (7, 0), (70, 35), (105, 35), (42, 21), (30, 15), (0, 14), (0, 10), (0, 6), (0, 6)]), (210, [(1, 0), (210, 35), (0, 6)])]),
  (6, 37, [(74, [(1, 0), (74, 37), (0, 2)]), (111, [(1, 0), (1, 0), (74, 37), (111, 37), (0, 3), (0, 2)]), (222, [(1, 0), (222, 37), (0, 6)])]),
  (7, 8, [(14, [(1, 0), (14, 7), (0, 2)]), (28, [(1, 0), (28, 7), (0, 4)]), (56, [(1, 0), (56, 8), (0, 7)])]),
  (7, 9, [(21, [(1, 0), (21, 7), (0, 3)]), (63, [(1, 0), (63, 9), (0, 7)])]),
  (7, 10, [(14, [(1, 0), (14, 7), (0, 2)]), (35, [(1, 0), (1, 0), (14, 7), (35, 7), (0, 5), (0, 2)]), (70, [(1, 0), (70, 10), (0, 7)])]),
  (7, 11, [(77, [(1, 0), (77, 11), (0, 7)])]),
  (7, 12, [(14, [(1, 0), (14, 7), (0, 2)]), (21, [(1, 0), (1, 0), (14, 7), (21, 7), (0, 3), (0, 2)]), (28, [(1, 0), (1, 0), (21, 7), (28, 7), (0, 4), (0, 3)]), (42, [(1, 0), (2, 0), (28, 14), (42, 7), (0, 6), (0, 4)]), (84, [(1, 0), (84, 12), (0, 7)])]),
  (7, 13, [(91, [(1, 0), (91, 13), (0, 7)])]),
  (7, 30, [(14, [(1, 0), (14, 7), (0, 2)]), (21, [(1, 0), (1, 0), (14, 7), (21, 7), (0, 3), (0, 2)]), (35, [(1, 0), (1, 0), (1, 0), (14, 7), (21, 7), (35, 7), (0, 5), (0, 3), (0, 2)]), (42, [(1, 0), (1, 0), (35, 7), (42, 7), (0, 6), (0, 5)]), (70, [(1, 0), (2, 0), (42, 14), (70, 10), (0, 7), (0, 6)]), (105, [(2, 0), (3, 0), (5, 0), (70, 35), (42, 21), (105, 15), (0, 14), (0, 10), (0, 6)]), (210, [(1, 0), (210, 30), (0, 7)])]),
  (7, 31, [(217, [(1, 0), (217, 31), (0, 7)])])]
theorem tqT5_ok : tqT5.all tqC = true := by decide +kernel
def tqT6 : List TqE := [(7, 32, [(14, [(1, 0), (14, 7), (0, 2)]), (28, [(1, 0), (28, 7), (0, 4)]), (56, [(1, 0), (56, 8), (0, 7)]), (112, [(1, 0), (112, 16), (0, 7)]), (224, [(1, 0), (224, 32), (0, 7)])]),
  (7, 33, [(21, [(1, 0), (21, 7), (0, 3)]), (77, [(1, 0), (1, 0), (77, 11), (21, 7), (0, 7), (0, 3)]), (231, [(1, 0), (231, 33), (0, 7)])]),
  (7, 34, [(14, [(1, 0), (14, 7), (0, 2)]), (119, [(1, 0), (1, 0), (119, 17), (14, 7), (0, 7), (0, 2)]), (238, [(1, 0), (238, 34), (0, 7)])]),
  (7, 36, [(14, [(1, 0), (14, 7), (0, 2)]), (21, [(1, 0), (1, 0), (14, 7), (21, 7), (0, 3), (0, 2)]), (28, [(1, 0), (1, 0), (21, 7), (28, 7), (0, 4), (0, 3)]), (42, [(1, 0), (2, 0), (28, 14), (42, 7), (0, 6), (0, 4)]), (63, [(1, 0), (2, 0), (3, 0), (42, 21), (28, 14), (63, 9), (0, 7), (0, 6), (0, 4)]), (84, [(1, 0), (3, 0), (63, 21), (84, 12), (0, 9), (0, 7)]), (126, [(1, 0), (6, 0), (84, 42), (126, 18), (0, 12), (0, 7)]), (252, [(1, 0), (252, 36), (0, 7)])]),
  (7, 37, [(259, [(1, 0), (259, 37), (0, 7)])]),
  (7, 38, [(14, [(1, 0), (14, 7), (0, 2)]), (133, [(1, 0), (1, 0), (133, 19), (14, 7), (0, 7), (0, 2)]), (266, [(1, 0), (266, 38), (0, 7)])]),
  (7, 39, [(21, [(1, 0), (21, 7), (0, 3)]), (91, [(1, 0), (1, 0), (91, 13), (21, 7), (0, 7), (0, 3)]), (273, [(1, 0), (273, 39), (0, 7)])]),
  (7, 40, [(14, [(1, 0), (14, 7), (0, 2)]), (28, [(1, 0), (28, 7), (0, 4)]), (35, [(1, 0), (1, 0), (28, 7), (35, 7), (0, 5), (0, 4)]), (56, [(1, 0), (1, 0), (56, 8), (35, 7), (0, 7), (0, 5)]), (70, [(1, 0), (2, 0), (56, 14), (70, 10), (0, 8), (0, 7)]), (140, [(1, 0), (4, 0), (56, 28), (140, 20), (0, 8), (0, 7)]), (280, [(1, 0), (280, 40), (0, 7)])]),
  (8, 9, [(6, [(1, 0), (6, 3), (0, 2)]), (12, [(1, 0), (12, 4), (0, 3)]), (18, [(1, 0), (18, 9), (12, 6), (0, 4)]), (24, [(1, 0), (18, 9), (24, 8), (0, 6)]), (36, [(1, 0), (24, 12), (36, 9), (0, 8)]), (72, [(1, 0), (72, 9), (0, 8)])]),
  (8, 11, [(22, [(1, 0), (22, 11), (0, 2)]), (44, [(1, 0), (44, 11), (0, 4)]), (88, [(1, 0), (88, 11), (0, 8)])]),
  (8, 13, [(26, [(1, 0), (26, 13), (0, 2)]), (52, [(1, 0), (52, 13), (0, 4)]), (104, [(1, 0), (104, 13), (0, 8)])])]
theorem tqT6_ok : tqT6.all tqC = true := by decide +kernel
def tqT7 : List TqE := [(8, 31, [(62, [(1, 0), (62, 31), (0, 2)]), (124, [(1, 0), (124, 31), (0, 4)]), (248, [(1, 0), (248, 31), (0, 8)])]),
  (8, 33, [(6, [(1, 0), (6, 3), (0, 2)]), (12, [(1, 0), (12, 4), (0, 3)]), (22, [(1, 0), (1, 0), (22, 11), (12, 4), (0, 3), (0, 2)]), (24, [(1, 0), (1, 0), (22, 11), (24, 8), (0, 3), (0, 2)]), (44, [(1, 0), (1, 0), (44, 11), (24, 8), (0, 4), (0, 3)]), (66, [(1, 0), (2, 0), (66, 33), (44, 22), (24, 8), (0, 6), (0, 4)]), (88, [(1, 0), (2, 0), (66, 33), (88, 22), (24, 8), (0, 8), (0, 6)]), (132, [(1, 0), (4, 0), (88, 44), (132, 33), (24, 12), (0, 8), (0, 8)]), (264, [(1, 0), (264, 33), (0, 8)])]),
  (8, 35, [(10, [(1, 0), (10, 5), (0, 2)]), (14, [(1, 0), (1, 0), (14, 7), (10, 5), (0, 2), (0, 2)]), (20, [(1, 0), (1, 0), (14, 7), (20, 5), (0, 4), (0, 2)]), (28, [(1, 0), (1, 0), (28, 7), (20, 5), (0, 4), (0, 4)]), (40, [(1, 0), (1, 0), (40, 8), (28, 7), (0, 5), (0, 4)]), (56, [(1, 0), (1, 0), (40, 8), (56, 8), (0, 7), (0, 5)]), (70, [(1, 0), (2, 0), (70, 35), (56, 14), (40, 10), (0, 8), (0, 8)]), (140, [(1, 0), (4, 0), (140, 35), (56, 28), (40, 20), (0, 8), (0, 8)]), (280, [(1, 0), (280, 35), (0, 8)])]),
  (8, 37, [(74, [(1, 0), (74, 37), (0, 2)]), (148, [(1, 0), (148, 37), (0, 4)]), (296, [(1, 0), (296, 37), (0, 8)])]),
  (8, 39, [(6, [(1, 0), (6, 3), (0, 2)]), (12, [(1, 0), (12, 4), (0, 3)]), (24, [(1, 0), (24, 8), (0, 3)]), (26, [(1, 0), (1, 0), (26, 13), (24, 8), (0, 3), (0, 2)]), (52, [(1, 0), (1, 0), (52, 13), (24, 8), (0, 4), (0, 3)]), (78, [(1, 0), (2, 0), (78, 39), (52, 26), (24, 8), (0, 6), (0, 4)]), (104, [(1, 0), (2, 0), (78, 39), (104, 26), (24, 8), (0, 8), (0, 6)]), (156, [(1, 0), (4, 0), (104, 52), (156, 39), (24, 12), (0, 8), (0, 8)]), (312, [(1, 0), (312, 39), (0, 8)])]),
  (9, 10, [(6, [(1, 0), (6, 3), (0, 2)]), (15, [(1, 0), (1, 0), (15, 5), (6, 3), (0, 3), (0, 2)]), (18, [(1, 0), (1, 0), (18, 9), (15, 5), (0, 3), (0, 2)]), (30, [(1, 0), (30, 10), (18, 9), (0, 6)]), (45, [(1, 0), (3, 0), (30, 15), (0, 10), (18, 9), (45, 9), (0, 6)]), (90, [(1, 0), (90, 10), (0, 9)])]),
  (9, 11, [(33, [(1, 0), (33, 11), (0, 3)]), (99, [(1, 0), (99, 11), (0, 9)])]),
  (9, 13, [(39, [(1, 0), (39, 13), (0, 3)]), (117, [(1, 0), (117, 13), (0, 9)])]),
  (9, 14, [(6, [(1, 0), (6, 3), (0, 2)]), (18, [(1, 0), (18, 9), (0, 2)]), (21, [(1, 0), (1, 0), (18, 9), (21, 7), (0, 3), (0, 2)]), (42, [(1, 0), (42, 14), (18, 9), (0, 6)]), (63, [(1, 0), (3, 0), (42, 21), (0, 14), (18, 9), (63, 9), (0, 6)]), (126, [(1, 0), (126, 14), (0, 9)])]),
  (9, 31, [(93, [(1, 0), (93, 31), (0, 3)]), (279, [(1, 0), (279, 31), (0, 9)])]),
  (9, 32, [(6, [(1, 0), (6, 3), (0, 2)]), (12, [(1, 0), (12, 4), (0, 3)]), (18, [(1, 0), (18, 9), (12, 6), (0, 4)]), (24, [(1, 0), (18, 9), (24, 8), (0, 6)]), (36, [(1, 0), (24, 12), (36, 9), (0, 8)]), (48, [(1, 0), (48, 16), (36, 12), (0, 9)]), (72, [(1, 0), (48, 24), (0, 16), (72, 9)]), (96, [(1, 0), (96, 32), (72, 24), (0, 9)]), (144, [(1, 0), (96, 48), (0, 32), (144, 9)]), (288, [(1, 0), (288, 32), (0, 9)])])]
theorem tqT7_ok : tqT7.all tqC = true := by decide +kernel
def tqT8 : List TqE := [(9, 34, [(6, [(1, 0), (6, 3), (0, 2)]), (18, [(1, 0), (18, 9), (0, 2)]), (51, [(1, 0), (1, 0), (51, 17), (18, 9), (0, 3), (0, 2)]), (102, [(1, 0), (102, 34), (18, 9), (0, 6)]), (153, [(1, 0), (3, 0), (102, 51), (0, 34), (18, 9), (153, 9), (0, 6)]), (306, [(1, 0), (306, 34), (0, 9)])]),
  (9, 35, [(15, [(1, 0), (15, 5), (0, 3)]), (21, [(1, 0), (1, 0), (21, 7), (15, 5), (0, 3), (0, 3)]), (45, [(1, 0), (1, 0), (45, 9), (21, 7), (0, 5), (0, 3)]), (63, [(1, 0), (1, 0), (45, 9), (63, 9), (0, 7), (0, 5)]), (105, [(1, 0), (3, 0), (105, 35), (63, 21), (45, 15), (0, 9), (0, 9)]), (315, [(1, 0), (315, 35), (0, 9)])]),
  (9, 37, [(111, [(1, 0), (111, 37), (0, 3)]), (333, [(1, 0), (333, 37), (0, 9)])]),
  (9, 38, [(6, [(1, 0), (6, 3), (0, 2)]), (18, [(1, 0), (18, 9), (0, 2)]), (57, [(1, 0), (1, 0), (57, 19), (18, 9), (0, 3), (0, 2)]), (114, [(1, 0), (114, 38), (18, 9), (0, 6)]), (171, [(1, 0), (3, 0), (114, 57), (0, 38), (18, 9), (171, 9), (0, 6)]), (342, [(1, 0), (342, 38), (0, 9)])]),
  (9, 40, [(6, [(1, 0), (6, 3), (0, 2)]), (12, [(1, 0), (12, 4), (0, 3)]), (15, [(1, 0), (1, 0), (15, 5), (12, 4), (0, 3), (0, 3)]), (18, [(1, 0), (1, 0), (18, 9), (12, 6), (15, 5), (0, 4), (0, 3)]), (24, [(1, 0), (1, 0), (18, 9), (24, 8), (0, 6), (15, 5), (0, 3)]), (30, [(1, 0), (2, 0), (30, 10), (18, 9), (24, 8), (0, 6), (0, 6)]), (36, [(1, 0), (2, 0), (24, 12), (30, 10), (36, 9), (0, 8), (0, 6)]), (45, [(1, 0), (2, 0), (3, 0), (30, 15), (24, 12), (0, 10), (36, 9), (45, 9), (0, 8), (0, 6)]), (60, [(1, 0), (3, 0), (4, 0), (60, 20), (45, 15), (24, 12), (36, 12), (0, 9), (0, 9), (0, 8)]), (72, [(1, 0), (3, 0), (4, 0), (60, 20), (45, 15), (72, 12), (0, 9), (0, 9), (0, 8)]), (90, [(1, 0), (4, 0), (6, 0), (60, 30), (0, 20), (72, 18), (0, 12), (90, 9), (0, 8)]), (120, [(1, 0), (6, 0), (120, 40), (90, 30), (72, 24), (0, 18), (0, 9)]), (180, [(1, 0), (12, 0), (120, 60), (0, 40), (72, 36), (0, 24), (180, 9)]), (360, [(1, 0), (360, 40), (0, 9)])]),
  (10, 11, [(22, [(1, 0), (22, 11), (0, 2)]), (55, [(1, 0), (1, 0), (22, 11), (55, 11), (0, 5), (0, 2)]), (110, [(1, 0), (110, 11), (0, 10)])]),
  (10, 13, [(26, [(1, 0), (26, 13), (0, 2)]), (65, [(1, 0), (1, 0), (26, 13), (65, 13), (0, 5), (0, 2)]), (130, [(1, 0), (130, 13), (0, 10)])]),
  (10, 31, [(62, [(1, 0), (62, 31), (0, 2)]), (155, [(1, 0), (1, 0), (62, 31), (155, 31), (0, 5), (0, 2)]), (310, [(1, 0), (310, 31), (0, 10)])]),
  (10, 33, [(6, [(1, 0), (6, 3), (0, 2)]), (15, [(1, 0), (1, 0), (15, 5), (6, 3), (0, 3), (0, 2)]), (22, [(1, 0), (1, 0), (1, 0), (22, 11), (15, 5), (6, 3), (0, 3), (0, 2), (0, 2)]), (30, [(1, 0), (1, 0), (22, 11), (30, 10), (0, 3), (0, 2)]), (55, [(1, 0), (1, 0), (1, 0), (22, 11), (55, 11), (30, 10), (0, 5), (0, 3), (0, 2)]), (66, [(1, 0), (1, 0), (66, 33), (55, 11), (30, 10), (0, 6), (0, 5)]), (110, [(1, 0), (2, 0), (66, 33), (110, 22), (30, 10), (0, 10), (0, 6)]), (165, [(2, 0), (3, 0), (5, 0), (11, 0), (110, 55), (66, 33), (165, 33), (0, 22), (30, 15), (0, 10), (0, 10), (0, 6)]), (330, [(1, 0), (330, 33), (0, 10)])]),
  (10, 37, [(74, [(1, 0), (74, 37), (0, 2)]), (185, [(1, 0), (1, 0), (74, 37), (185, 37), (0, 5), (0, 2)]), (370, [(1, 0), (370, 37), (0, 10)])]),
  (10, 39, [(6, [(1, 0), (6, 3), (0, 2)]), (15, [(1, 0), (1, 0), (15, 5), (6, 3), (0, 3), (0, 2)]), (26, [(1, 0), (1, 0), (1, 0), (26, 13), (15, 5), (6, 3), (0, 3), (0, 2), (0, 2)]), (30, [(1, 0), (1, 0), (26, 13), (30, 10), (0, 3), (0, 2)]), (65, [(1, 0), (1, 0), (1, 0), (26, 13), (65, 13), (30, 10), (0, 5), (0, 3), (0, 2)]), (78, [(1, 0), (1, 0), (78, 39), (65, 13), (30, 10), (0, 6), (0, 5)]), (130, [(1, 0), (2, 0), (78, 39), (130, 26), (30, 10), (0, 10), (0, 6)]), (195, [(2, 0), (3, 0), (5, 0), (13, 0), (130, 65), (78, 39), (195, 39), (0, 26), (30, 15), (0, 10), (0, 10), (0, 6)]), (390, [(1, 0), (390, 39), (0, 10)])])]
theorem tqT8_ok : tqT8.all tqC = true := by decide +kernel
def tqT9 : List TqE := [(11, 12, [(22, [(1, 0), (22, 11), (0, 2)]), (33, [(1, 0), (1, 0), (22, 11), (33, 11), (0, 3), (0, 2)]), (44, [(1, 0), (1, 0), (33, 11), (44, 11), (0, 4), (0, 3)]), (66, [(1, 0), (2, 0), (44, 22), (66, 11), (0, 6), (0, 4)]), (132, [(1, 0), (132, 12), (0, 11)])]),
  (11, 13, [(143, [(1, 0), (143, 13), (0, 11)])]),
  (11, 14, [(22, [(1, 0), (22, 11), (0, 2)]), (77, [(1, 0), (1, 0), (22, 11), (77, 11), (0, 7), (0, 2)]), (154, [(1, 0), (154, 14), (0, 11)])]),
  (11, 30, [(22, [(1, 0), (22, 11), (0, 2)]), (33, [(1, 0), (1, 0), (22, 11), (33, 11), (0, 3), (0, 2)]), (55, [(1, 0), (1, 0), (1, 0), (22, 11), (33, 11), (55, 11), (0, 5), (0, 3), (0, 2)]), (66, [(1, 0), (1, 0), (55, 11), (66, 11), (0, 6), (0, 5)]), (110, [(1, 0), (2, 0), (66, 22), (110, 11), (0, 10), (0, 6)]), (165, [(2, 0), (3, 0), (5, 0), (110, 55), (66, 33), (0, 22), (165, 15), (0, 10), (0, 6)]), (330, [(1, 0), (330, 30), (0, 11)])]),
  (11, 31, [(341, [(1, 0), (341, 31), (0, 11)])]),
  (11, 32, [(22, [(1, 0), (22, 11), (0, 2)]), (44, [(1, 0), (44, 11), (0, 4)]), (88, [(1, 0), (88, 11), (0, 8)]), (176, [(1, 0), (176, 16), (0, 11)]), (352, [(1, 0), (352, 32), (0, 11)])]),
  (11, 34, [(22, [(1, 0), (22, 11), (0, 2)]), (187, [(1, 0), (1, 0), (187, 17), (22, 11), (0, 11), (0, 2)]), (374, [(1, 0), (374, 34), (0, 11)])]),
  (11, 35, [(55, [(1, 0), (55, 11), (0, 5)]), (77, [(1, 0), (1, 0), (55, 11), (77, 11), (0, 7), (0, 5)]), (385, [(1, 0), (385, 35), (0, 11)])]),
  (11, 36, [(22, [(1, 0), (22, 11), (0, 2)]), (33, [(1, 0), (1, 0), (22, 11), (33, 11), (0, 3), (0, 2)]), (44, [(1, 0), (1, 0), (33, 11), (44, 11), (0, 4), (0, 3)]), (66, [(1, 0), (2, 0), (44, 22), (66, 11), (0, 6), (0, 4)]), (99, [(1, 0), (2, 0), (3, 0), (66, 33), (44, 22), (99, 11), (0, 9), (0, 6), (0, 4)]), (132, [(1, 0), (3, 0), (99, 33), (132, 12), (0, 11), (0, 9)]), (198, [(1, 0), (6, 0), (132, 66), (198, 18), (0, 12), (0, 11)]), (396, [(1, 0), (396, 36), (0, 11)])]),
  (11, 37, [(407, [(1, 0), (407, 37), (0, 11)])]),
  (11, 38, [(22, [(1, 0), (22, 11), (0, 2)]), (209, [(1, 0), (1, 0), (209, 19), (22, 11), (0, 11), (0, 2)]), (418, [(1, 0), (418, 38), (0, 11)])])]
theorem tqT9_ok : tqT9.all tqC = true := by decide +kernel
def tqT10 : List TqE := [(11, 39, [(33, [(1, 0), (33, 11), (0, 3)]), (143, [(1, 0), (1, 0), (143, 13), (33, 11), (0, 11), (0, 3)]), (429, [(1, 0), (429, 39), (0, 11)])]),
  (11, 40, [(22, [(1, 0), (22, 11), (0, 2)]), (44, [(1, 0), (44, 11), (0, 4)]), (55, [(1, 0), (1, 0), (44, 11), (55, 11), (0, 5), (0, 4)]), (88, [(1, 0), (1, 0), (55, 11), (88, 11), (0, 8), (0, 5)]), (110, [(1, 0), (2, 0), (88, 22), (110, 11), (0, 10), (0, 8)]), (220, [(1, 0), (4, 0), (88, 44), (220, 20), (0, 11), (0, 8)]), (440, [(1, 0), (440, 40), (0, 11)])]),
  (12, 13, [(26, [(1, 0), (26, 13), (0, 2)]), (39, [(1, 0), (1, 0), (26, 13), (39, 13), (0, 3), (0, 2)]), (52, [(1, 0), (1, 0), (39, 13), (52, 13), (0, 4), (0, 3)]), (78, [(1, 0), (2, 0), (52, 26), (78, 13), (0, 6), (0, 4)]), (156, [(1, 0), (156, 13), (0, 12)])]),
  (12, 31, [(62, [(1, 0), (62, 31), (0, 2)]), (93, [(1, 0), (1, 0), (62, 31), (93, 31), (0, 3), (0, 2)]), (124, [(1, 0), (1, 0), (93, 31), (124, 31), (0, 4), (0, 3)]), (186, [(1, 0), (2, 0), (124, 62), (186, 31), (0, 6), (0, 4)]), (372, [(1, 0), (372, 31), (0, 12)])]),
  (12, 35, [(10, [(1, 0), (10, 5), (0, 2)]), (14, [(1, 0), (1, 0), (14, 7), (10, 5), (0, 2), (0, 2)]), (15, [(1, 0), (1, 0), (1, 0), (14, 7), (10, 5), (15, 5), (0, 3), (0, 2), (0, 2)]), (20, [(1, 0), (1, 0), (1, 0), (14, 7), (15, 5), (20, 5), (0, 4), (0, 3), (0, 2)]), (21, [(1, 0), (1, 0), (1, 0), (1, 0), (14, 7), (21, 7), (15, 5), (20, 5), (0, 4), (0, 3), (0, 3), (0, 2)]), (28, [(1, 0), (1, 0), (1, 0), (1, 0), (21, 7), (28, 7), (15, 5), (20, 5), (0, 4), (0, 4), (0, 3), (0, 3)]), (30, [(1, 0), (1, 0), (1, 0), (2, 0), (20, 10), (21, 7), (28, 7), (30, 6), (0, 5), (0, 4), (0, 4), (0, 3)]), (42, [(1, 0), (1, 0), (2, 0), (2, 0), (28, 14), (20, 10), (42, 7), (30, 6), (0, 6), (0, 5), (0, 4), (0, 4)]), (60, [(1, 0), (1, 0), (2, 0), (28, 14), (60, 12), (42, 7), (0, 6), (0, 5), (0, 4)]), (70, [(1, 0), (2, 0), (2, 0), (70, 35), (28, 14), (42, 14), (60, 12), (0, 10), (0, 6), (0, 4)]), (84, [(1, 0), (2, 0), (70, 35), (84, 14), (60, 12), (0, 12), (0, 10)]), (105, [(2, 0), (3, 0), (5, 0), (7, 0), (70, 35), (105, 35), (84, 21), (60, 15), (0, 14), (0, 12), (0, 12), (0, 10)]), (140, [(3, 0), (4, 0), (5, 0), (7, 0), (105, 35), (140, 35), (84, 28), (0, 21), (60, 20), (0, 15), (0, 12), (0, 12)]), (210, [(1, 0), (6, 0), (10, 0), (14, 0), (140, 70), (84, 42), (210, 35), (60, 30), (0, 28), (0, 20), (0, 12), (0, 12), (4, 2)]), (420, [(1, 0), (420, 35), (0, 12)])]),
  (12, 37, [(74, [(1, 0), (74, 37), (0, 2)]), (111, [(1, 0), (1, 0), (74, 37), (111, 37), (0, 3), (0, 2)]), (148, [(1, 0), (1, 0), (111, 37), (148, 37), (0, 4), (0, 3)]), (222, [(1, 0), (2, 0), (148, 74), (222, 37), (0, 6), (0, 4)]), (444, [(1, 0), (444, 37), (0, 12)])]),
  (13, 14, [(26, [(1, 0), (26, 13), (0, 2)]), (91, [(1, 0), (1, 0), (26, 13), (91, 13), (0, 7), (0, 2)]), (182, [(1, 0), (182, 14), (0, 13)])]),
  (13, 30, [(26, [(1, 0), (26, 13), (0, 2)]), (39, [(1, 0), (1, 0), (26, 13), (39, 13), (0, 3), (0, 2)]), (65, [(1, 0), (1, 0), (1, 0), (26, 13), (39, 13), (65, 13), (0, 5), (0, 3), (0, 2)]), (78, [(1, 0), (1, 0), (65, 13), (78, 13), (0, 6), (0, 5)]), (130, [(1, 0), (2, 0), (78, 26), (130, 13), (0, 10), (0, 6)]), (195, [(2, 0), (3, 0), (5, 0), (130, 65), (78, 39), (0, 26), (195, 15), (0, 10), (0, 6)]), (390, [(1, 0), (390, 30), (0, 13)])]),
  (13, 31, [(403, [(1, 0), (403, 31), (0, 13)])]),
  (13, 32, [(26, [(1, 0), (26, 13), (0, 2)]), (52, [(1, 0), (52, 13), (0, 4)]), (104, [(1, 0), (104, 13), (0, 8)]), (208, [(1, 0), (208, 16), (0, 13)]), (416, [(1, 0), (416, 32), (0, 13)])]),
  (13, 33, [(39, [(1, 0), (39, 13), (0, 3)]), (143, [(1, 0), (1, 0), (39, 13), (143, 13), (0, 11), (0, 3)]), (429, [(1, 0), (429, 33), (0, 13)])])]
theorem tqT10_ok : tqT10.all tqC = true := by decide +kernel
def tqT11 : List TqE := [(13, 34, [(26, [(1, 0), (26, 13), (0, 2)]), (221, [(1, 0), (1, 0), (221, 17), (26, 13), (0, 13), (0, 2)]), (442, [(1, 0), (442, 34), (0, 13)])]),
  (13, 35, [(65, [(1, 0), (65, 13), (0, 5)]), (91, [(1, 0), (1, 0), (65, 13), (91, 13), (0, 7), (0, 5)]), (455, [(1, 0), (455, 35), (0, 13)])]),
  (13, 36, [(26, [(1, 0), (26, 13), (0, 2)]), (39, [(1, 0), (1, 0), (26, 13), (39, 13), (0, 3), (0, 2)]), (52, [(1, 0), (1, 0), (39, 13), (52, 13), (0, 4), (0, 3)]), (78, [(1, 0), (2, 0), (52, 26), (78, 13), (0, 6), (0, 4)]), (117, [(1, 0), (2, 0), (3, 0), (78, 39), (52, 26), (117, 13), (0, 9), (0, 6), (0, 4)]), (156, [(1, 0), (3, 0), (117, 39), (156, 13), (0, 12), (0, 9)]), (234, [(1, 0), (6, 0), (156, 78), (234, 18), (0, 13), (0, 12)]), (468, [(1, 0), (468, 36), (0, 13)])]),
  (13, 37, [(481, [(1, 0), (481, 37), (0, 13)])]),
  (13, 38, [(26, [(1, 0), (26, 13), (0, 2)]), (247, [(1, 0), (1, 0), (247, 19), (26, 13), (0, 13), (0, 2)]), (494, [(1, 0), (494, 38), (0, 13)])]),
  (13, 40, [(26, [(1, 0), (26, 13), (0, 2)]), (52, [(1, 0), (52, 13), (0, 4)]), (65, [(1, 0), (1, 0), (52, 13), (65, 13), (0, 5), (0, 4)]), (104, [(1, 0), (1, 0), (65, 13), (104, 13), (0, 8), (0, 5)]), (130, [(1, 0), (2, 0), (104, 26), (130, 13), (0, 10), (0, 8)]), (260, [(1, 0), (4, 0), (104, 52), (260, 20), (0, 13), (0, 8)]), (520, [(1, 0), (520, 40), (0, 13)])]),
  (14, 31, [(62, [(1, 0), (62, 31), (0, 2)]), (217, [(1, 0), (1, 0), (62, 31), (217, 31), (0, 7), (0, 2)]), (434, [(1, 0), (434, 31), (0, 14)])]),
  (14, 33, [(6, [(1, 0), (6, 3), (0, 2)]), (21, [(1, 0), (1, 0), (21, 7), (6, 3), (0, 3), (0, 2)]), (22, [(1, 0), (1, 0), (1, 0), (22, 11), (21, 7), (6, 3), (0, 3), (0, 2), (0, 2)]), (42, [(1, 0), (1, 0), (42, 14), (22, 11), (0, 3), (0, 2)]), (66, [(1, 0), (66, 33), (42, 14), (0, 6)]), (77, [(1, 0), (1, 0), (66, 33), (42, 14), (77, 11), (0, 7), (0, 6)]), (154, [(1, 0), (2, 0), (66, 33), (154, 22), (42, 14), (0, 14), (0, 6)]), (231, [(2, 0), (3, 0), (7, 0), (11, 0), (154, 77), (66, 33), (231, 33), (0, 22), (42, 21), (0, 14), (0, 14), (0, 6)]), (462, [(1, 0), (462, 33), (0, 14)])]),
  (14, 37, [(74, [(1, 0), (74, 37), (0, 2)]), (259, [(1, 0), (1, 0), (74, 37), (259, 37), (0, 7), (0, 2)]), (518, [(1, 0), (518, 37), (0, 14)])]),
  (14, 39, [(6, [(1, 0), (6, 3), (0, 2)]), (21, [(1, 0), (1, 0), (21, 7), (6, 3), (0, 3), (0, 2)]), (26, [(1, 0), (1, 0), (1, 0), (26, 13), (21, 7), (6, 3), (0, 3), (0, 2), (0, 2)]), (42, [(1, 0), (1, 0), (42, 14), (26, 13), (0, 3), (0, 2)]), (78, [(1, 0), (78, 39), (42, 14), (0, 6)]), (91, [(1, 0), (1, 0), (78, 39), (42, 14), (91, 13), (0, 7), (0, 6)]), (182, [(1, 0), (2, 0), (78, 39), (182, 26), (42, 14), (0, 14), (0, 6)]), (273, [(2, 0), (3, 0), (7, 0), (13, 0), (182, 91), (78, 39), (273, 39), (0, 26), (42, 21), (0, 14), (0, 14), (0, 6)]), (546, [(1, 0), (546, 39), (0, 14)])])]
theorem tqT11_ok : tqT11.all tqC = true := by decide +kernel
def tqT : List TqE := tqT0 ++ tqT1 ++ tqT2 ++ tqT3 ++ tqT4 ++ tqT5 ++ tqT6 ++ tqT7 ++ tqT8 ++ tqT9 ++ tqT10 ++ tqT11
theorem tqT_ok : ∀ e ∈ tqT, tqC e = true := by
  intro e he
  unfold tqT at he
  simp only [List.mem_append] at he
  rcases he with (((((((((((he | he) | he) | he) | he) | he) | he) | he) | he) | he) | he) | he)
  · exact List.all_eq_true.1 tqT0_ok e he
  · exact List.all_eq_true.1 tqT1_ok e he
  · exact List.all_eq_true.1 tqT2_ok e he
  · exact List.all_eq_true.1 tqT3_ok e he
  · exact List.all_eq_true.1 tqT4_ok e he
  · exact List.all_eq_true.1 tqT5_ok e he
  · exact List.all_eq_true.1 tqT6_ok e he
  · exact List.all_eq_true.1 tqT7_ok e he
  · exact List.all_eq_true.1 tqT8_ok e he
  · exact List.all_eq_true.1 tqT9_ok e he
  · exact List.all_eq_true.1 tqT10_ok e he
  · exact List.all_eq_true.1 tqT11_ok e he
end Go.Proofs.Ytkcbihmpjkkccaa
/-
  The table has all pairs that are drawn. No condition.
-/
namespace Go.Proofs.Ytkcbihmpjkkccaa
open Go Go.RowKit

theorem tq_mem : ∀ a ∈ List.range 15, ∀ b ∈ List.range 41, 2 ≤ a → a < b → (b ≤ 14 ∨ 30 ≤ b) → Nat.gcd a b = 1 → (tqT.any fun e => e.1 == a && e.2.1 == b) = true := by decide +kernel
theorem pb_pair {a b : Nat} (h1 : 2 ≤ a) (h2 : a < b) (h3 : a ≤ 14) (h4 : b ≤ 14 ∨ (30 ≤ b ∧ b ≤ 40)) (hg : Nat.gcd a b = 1) : pbE [(a : Int), (b : Int)] = 0 ∧ pbV [(a : Int), (b : Int)] = tpV a b := by
  have h := tq_mem a (List.mem_range.2 (by omega)) b (List.mem_range.2 (by omega)) h1 h2 (by omega) hg
  obtain ⟨e, he, h5⟩ := List.any_eq_true.1 h
  simp only [Bool.and_eq_true, beq_iff_eq] at h5
  have := pb_two (tqT_ok e he)
  rw [h5.1, h5.2] at this
  exact this
end Go.Proofs.Ytkcbihmpjkkccaa
/-
  A source of numbers: a struct of bytes, a place and a hash behind a pointer; functions that write to it in its place, whatever it then holds. No condition.
-/
namespace Go.Proofs.Ytkcbihmpjkkccaa
open Go Go.RowKit
set_option linter.unusedSimpArgs false

def SOk (bs : List Int) (at_ h : Int) : Prop := (0 ≤ at_ ∧ at_ ≤ bs.length) ∧ (0 ≤ h ∧ h < 18446744073709551616)
/-- The struct in memory. -/
structure Sk (T : TypeId) (base : Nat) (w : World) (g0 : Gh) (vC : Value) (at_ h : Int) : Prop where
  cell : w.heap[g0.b]? = some (.cells #[vC, .int .i64 at_, .int .u64 h] T (0, 0))
  one : vC.oneCell' = true
  hb : base ≤ g0.b
  bl : g0.bl = [g0.b]
  v : g0.v = .pointer (some ⟨g0.b, 0, none⟩)
def AFnS (P : Program) (f : FuncId) (T : TypeId) (bs : List Int) (as0 : List Value) (Q : Value → Prop) : Prop :=
  HasBody P f ∧ ∀ base w g0 vC at_ h, base ≤ w.heap.size → Sk T base w g0 vC at_ h → SOk bs at_ h → BysAt w (fun b => b ∉ g0.bl) vC bs →
    Calls P f (g0.v :: as0).toArray w fun ev w' => ∃ rv at' h', ev = .returned rv ∧ Q rv ∧ SOk bs at' h' ∧ Sk T base w' g0 vC at' h' ∧ Below base w w' ∧ ∀ b, b < w.heap.size → b ∉ g0.bl → w'.heap[b]? = w.heap[b]?
abbrev skL (T : TypeId) (bs : List Int) (vC : Value) (at_ h : Int) : AO := .bx T [.ro (roB vC bs), .val (.int .i64 at_), .val (.int .u64 h)]
def SkEnd (P : Program) (fn : Func) (T : TypeId) (bs : List Int) (vC : Value) (K : Kp) (Q : Value → Prop) (env : Env) (os : List AO) : Prop :=
  ∃ rv at' h', ResIs P fn env os (.val rv) ∧ Q rv ∧ SOk bs at' h' ∧ ∃ tl, os = .keep 2 K :: skL T bs vC at' h' :: tl

set_option maxHeartbeats 2000000 in
theorem AFnS.of {P : Program} {f : FuncId} {fn : Func} {c : Code} {T : TypeId} {bs : List Int} {as0 : List Value} {args' : List AV} {Q : Value → Prop} {n : Nat} (hf : P.funcs[f]? = some fn) (hb : fn.body = some c) (hnm : (fn.name == "runtime.NumGoroutine") = false)
    (hn : fn.ntmps - (as0.length + 1) = n) (ha : args' = .optr 1 0 :: as0.map AV.val)
    (h : ∀ K vC at_ h, SOk bs at_ h → AWp P c (SkEnd P fn T bs vC K Q) (fun _ _ _ => False) (SkEnd P fn T bs vC K Q) (Env.start args' n) [.keep 2 K, skL T bs vC at_ h]) :
    AFnS P f T bs as0 Q := by
  refine ⟨⟨fn, c, hf, hnm, hb⟩, fun base w g0 vC at_ hh hbase hC hI hW => calls_of_wp hf hb ?_⟩
  have hvs : ((g0.v :: as0).toArray).size = as0.length + 1 := by simp
  rw [show fn.ntmps - ((g0.v :: as0).toArray).size = n by rw [hvs]; exact hn]
  obtain ⟨c1, c1', c2, c3, c4⟩ := hC
  let bl : List Nat := (List.range w.heap.size).filter fun b => decide (base ≤ b) && !(g0.bl).contains b
  let gk : Gh := ⟨undef, 0, bl, []⟩
  let K : Kp := ⟨fun b => w.heap[b]?, [gk, g0]⟩
  have hlt : g0.b < w.heap.size := (Array.getElem?_eq_some_iff.1 c1).1
  have hbl : ∀ b, b ∈ bl ↔ b < w.heap.size ∧ base ≤ b ∧ b ∉ g0.bl := by
    intro b
    simp only [bl, List.mem_filter, List.mem_range, Bool.and_eq_true, decide_eq_true_eq, Bool.not_eq_true', List.contains_eq_mem, decide_eq_false_iff_not]
  have okk : ∀ b, b ∉ g0.bl → okOf [gk, g0] [.keep 2 K, skL T bs vC at_ hh] b := by
    intro b hb i x y hx hy hl
    match i with
    | 0 => cases hy; exact hl.elim
    | 1 => cases hx; exact hb
    | i + 2 => simp at hx
  have kp : Keeps (fun b => b ∉ g0.bl) (okOf [gk, g0] [.keep 2 K, skL T bs vC at_ hh]) w w := fun b hb _ => ⟨okk b hb, rfl⟩
  have hrel : Rel base w [gk, g0] (Env.start args' n) [.keep 2 K, skL T bs vC at_ hh] ((g0.v :: as0).toArray ++ Array.replicate n undef) := by
    refine ⟨hbase, rfl, by simp [Env.start, ha], fun i => ?_, ?_, ?_, ?_⟩
    · refine start_rv args' n (g0.v :: as0).toArray (fun i => ?_) i
      rw [ha]
      match i with
      | 0 =>
        show RV w _ _ g0.v (.optr 1 0)
        rw [c4]
        exact .optr (g := g0) rfl
      | i + 1 =>
        have e1 : ((g0.v :: as0).toArray).getD (i + 1) undef = as0.getD i undef := by simp [Array.getD_eq_getD_getElem?, List.getD_eq_getElem?_getD]
        have e2 : (AV.optr 1 0 :: as0.map AV.val).getD (i + 1) .any = (as0.map AV.val).getD i .any := rfl
        rw [e1, e2]
        rw [List.getD_eq_getElem?_getD, List.getD_eq_getElem?_getD, List.getElem?_map]
        cases as0[i]? with
        | none => exact .any _
        | some z => exact .val z
    · intro i x y hx hy
      match i with
      | 0 =>
        cases hx; cases hy
        exact ⟨fun b _ => rfl, rfl, fun i x h => h⟩
      | 1 =>
        cases hx; cases hy
        refine ⟨[vC, .int .i64 at_, .int .u64 hh], c1, c2, c3, c4, rfl, ?_, fun j => ?_⟩
        · intro z hz
          simp only [List.mem_cons, List.not_mem_nil, or_false] at hz
          rcases hz with rfl | rfl | rfl
          · exact c1'
          · rfl
          · rfl
        · match j with
          | 0 => exact .ro ⟨rfl, hW.mono kp⟩
          | 1 => exact .val _
          | 2 => exact .val _
          | j + 3 => exact .any _
      | i + 2 => simp at hx
    · intro i j a b o1 o2 hij ha1 hb1 ho1 ho2 _ _ c hc1 hc2
      match i, j with
      | 0, 0 => omega
      | 0, 1 =>
        cases ha1; cases hb1
        exact ((hbl c).1 hc1).2.2 hc2
      | 1, 0 =>
        cases ha1; cases hb1
        exact ((hbl c).1 hc2).2.2 hc1
      | 1, 1 => omega
      | i + 2, _ => simp at ha1
      | 0, j + 2 => simp at hb1
      | 1, j + 2 => simp at hb1
    · intro i x y hx hy _ b hb
      match i with
      | 0 => cases hx; exact ⟨((hbl b).1 hb).2.1, ((hbl b).1 hb).1⟩
      | 1 =>
        cases hx
        rw [c3] at hb
        simp only [List.mem_cons, List.not_mem_nil, or_false] at hb
        subst hb; exact ⟨c2, hlt⟩
      | i + 2 => simp at hx
  have fin : ∀ {env : Env} {os1 : List AO} {gs2 : List Gh} {a : Act} {w' : World}, Rel base w' gs2 env os1 a.tmps → Below base w w' → SkEnd P fn T bs vC K Q env os1 →
      ∃ u, (results fn a.tmps).run P w' = .ok u w' ∧ (∃ rv at' h', Ending.returned u = .returned rv ∧ Q rv ∧ SOk bs at' h' ∧ Sk T base w' g0 vC at' h' ∧ Below base w w' ∧ ∀ b, b < w.heap.size → b ∉ g0.bl → w'.heap[b]? = w.heap[b]?) := by
    rintro env os1 gs2 a w' hr hbel ⟨rv, at', h', hres, hQ, hI', tl, rfl⟩
    obtain ⟨u, hu, hv⟩ := hres _ _ _ _ hr
    cases hv
    have hgl := hr.hl
    obtain ⟨x0, hx0⟩ : ∃ x, gs2[0]? = some x := ⟨_, List.getElem?_eq_getElem (by rw [hgl]; simp)⟩
    obtain ⟨r1, r2, r3⟩ := hr.ho 0 _ _ hx0 rfl
    have p0 := r3 0 gk rfl
    have p1 := r3 1 g0 rfl
    have e0 : x0 = gk := by rw [hx0] at p0; exact Option.some.inj p0
    subst e0
    have o1 := hr.ho 1 _ _ p1 rfl
    obtain ⟨cs, d1, d2, d3, d4, d5, d6, d7⟩ := o1
    match cs, d5 with
    | [z0, z1, z2], _ =>
      have q0 := d7 0
      have q1 := d7 1
      have q2 := d7 2
      have w0 : z0 = vC := by cases q0 with | ro h => exact h.1
      have w1 : z1 = .int .i64 at' := by cases q1; rfl
      have w2 : z2 = .int .u64 h' := by cases q2; rfl
      subst w0 w1 w2
      refine ⟨_, hu, _, at', h', rfl, hQ, hI', ⟨d1, c1', c2, c3, c4⟩, hbel, fun b hb hok => ?_⟩
      rcases Nat.lt_or_ge b base with h6 | h6
      · exact hbel.block b h6
      · exact r1 b ((hbl b).2 ⟨hb, h6, hok⟩)
  refine wp_mono (h K vC at_ hh hI base w w _ _ hrel (Below.refl _ _)) ?_
  intro ev a w' hq
  cases ev with
  | normal =>
    obtain ⟨env, os1, gs1, hr, hd, hbel, hx⟩ := hq
    obtain ⟨u, hu, hw⟩ := fin hr hbel hx
    exact ⟨hd, u, hu, hw⟩
  | exit j => obtain ⟨_, _, _, _, _, _, hx⟩ := hq; exact hx.elim
  | ret =>
    obtain ⟨env, os1, gs1, hr, hd, hbel, hx⟩ := hq
    obtain ⟨u, hu, hw⟩ := fin hr hbel hx
    exact ⟨hd, u, hu, hw⟩
  | goto l => exact (hq : False).elim
  | panic ch => exact (hq : False).elim
  | outgrown => exact (hq : False).elim
theorem AFnS.start {P : Program} {f : FuncId} {fn : Func} {nt : Nat} {T : TypeId} {bs : List Int} {as0 : List Value} {Q : Value → Prop} (hf : P.funcs[f]? = some fn) (hnt : fn.ntmps = nt) {c : Code} (hb : fn.body = some c) (hnm : (fn.name == "runtime.NumGoroutine") = false)
    (h : ∀ K vC at_ h, SOk bs at_ h → AWp P c (SkEnd P fn T bs vC K Q) (fun _ _ _ => False) (SkEnd P fn T bs vC K Q) (Env.start (.optr 1 0 :: as0.map AV.val) (nt - (as0.length + 1))) [.keep 2 K, skL T bs vC at_ h]) :
    AFnS P f T bs as0 Q := AFnS.of hf hb hnm (by rw [hnt]) rfl h

section
variable {P : Program} {env : Env} {os : List AO} {d : Option Tmp} {ty : TypeId} {pos : String} {af : Array Edge} {g : Option (Nat × Bool)}
set_option maxHeartbeats 2000000 in
theorem c_callsk {f : FuncId} {T : TypeId} {bs : List Int} {as0 : List Value} {Q : Value → Prop} {h0 : Nat} {a0 : AV} {at_ hh : Int} (hc : AFnS P f T bs as0 Q) {x : Operand} {xs : List Operand} {ats : Array TypeId} (hx : AV.ev env x = .optr h0 0)
    (o0 : os[h0]? = some (.bx T [a0, .val (.int .i64 at_), .val (.int .u64 hh)])) (hI : SOk bs at_ hh) (hxs : xs.map (AV.ev env) = as0.map AV.val) (ra : RdB a0 bs) :
    COp P ⟨d, .call { callee := .value (.func f), args := (x :: xs).toArray, argTypes := ats }, ty, pos, af, g⟩ env os (fun r e' o => ∃ rv at' h', r = .val rv ∧ e' = env ∧ Q rv ∧ SOk bs at' h' ∧ o = os.set h0 (.bx T [a0, .val (.int .i64 at'), .val (.int .u64 h')])) := by
  intro base w gs tm hr
  obtain ⟨g0, q0⟩ : ∃ x, gs[h0]? = some x := ⟨_, List.getElem?_eq_getElem (by rw [hr.hl]; exact (List.getElem?_eq_some_iff.1 o0).1)⟩
  obtain ⟨cs, d1, d2, d3, d4, d5, d6, d7⟩ := hr.ho _ _ _ q0 o0
  match cs, d5 with
  | [z0, z1, z2], _ =>
    have t0 : RV w (okOf gs os) gs z0 a0 := d7 0
    have t1 : RV w (okOf gs os) gs z1 (.val (.int .i64 at_)) := d7 1
    have t2 : RV w (okOf gs os) gs z2 (.val (.int .u64 hh)) := d7 2
    have w1 : z1 = .int .i64 at_ := by cases t1; rfl
    have w2 : z2 = .int .u64 hh := by cases t2; rfl
    subst w1 w2
    have hw0 := ra _ _ _ _ t0
    have okb : ∀ b, okOf gs os b → b ∉ g0.bl := fun b hb => hb h0 g0 _ q0 o0 trivial
    have kpb : Keeps (okOf gs os) (fun b => b ∉ g0.bl) w w := fun b hb _ => ⟨okb b hb, rfl⟩
    have hWk : Sk T base w g0 z0 at_ hh := ⟨d1, d6 _ (by simp), d2, d3, d4⟩
    have hxv := hr.ev x
    rw [hx] at hxv
    have ex : Act.eval ⟨tm, []⟩ x = g0.v := by
      generalize Act.eval ⟨tm, []⟩ x = v at hxv
      cases hxv with
      | optr hh => rw [q0] at hh; cases hh; exact d4.symm
    have exs : xs.map (Act.eval ⟨tm, []⟩) = as0 := by
      have hlen : xs.length = as0.length := by simpa using congrArg List.length hxs
      apply List.ext_getElem (by simpa using hlen)
      intro i k1 k2
      have k3 : i < xs.length := by simpa using k1
      have : AV.ev env xs[i] = .val as0[i] := by
        have := congrArg (fun l => l[i]?) hxs
        simpa [List.getElem?_eq_getElem k3, List.getElem?_eq_getElem k2] using this
      simpa using hr.evv this
    refine ⟨f, _, run_call hc.1 (x :: xs) ats _ rfl w, ?_⟩
    have eargs : ((x :: xs).map (Act.eval ⟨tm, []⟩)).toArray = (g0.v :: as0).toArray := by rw [List.map_cons, ex, exs]
    rw [eargs]
    refine (hc.2 base w g0 z0 at_ hh hr.hb hWk hI (hw0.mono kpb)).mono ?_
    rintro ev w' ⟨rv, at', h', rfl, hQ, hI', hWk', hbel, hfr⟩
    obtain ⟨c1, c1', c2, c3, c4⟩ := hWk'
    have l0 := (List.getElem?_eq_some_iff.1 o0).1
    refine ⟨rv, .val rv, env, _, gs, rfl, ⟨rv, at', h', rfl, rfl, hQ, hI', rfl⟩, hr.upds [h0] (by simp) (fun i hi => ?_) (fun i hi o o' ho ho' => ?_) (fun b hb hn => ?_) hbel.size (fun kp i hi gx o' hgx ho' => ?_), .val rv, hbel⟩
    · simp only [List.mem_cons, List.not_mem_nil, or_false] at hi
      rw [List.getElem?_set, if_neg (fun e => hi e.symm)]
    · simp only [List.mem_cons, List.not_mem_nil, or_false] at hi
      subst hi
      rw [o0] at ho; cases ho
      rw [List.getElem?_set_self l0] at ho'; cases ho'
      exact ⟨trivial, trivial⟩
    · exact hfr b hb (hn h0 (by simp) _ q0)
    · simp only [List.mem_cons, List.not_mem_nil, or_false] at hi
      subst hi
      rw [List.getElem?_set_self l0] at ho'; cases ho'
      rw [q0] at hgx; cases hgx
      refine ⟨[z0, .int .i64 at', .int .u64 h'], c1, c2, c3, c4, rfl, ?_, fun j => ?_⟩
      · intro z hz
        simp only [List.mem_cons, List.not_mem_nil, or_false] at hz
        rcases hz with rfl | rfl | rfl
        · exact c1'
        · rfl
        · rfl
      · match j with
        | 0 => exact t0.mono kp fun _ _ h => h
        | 1 => exact .val _
        | 2 => exact .val _
        | j + 3 => exact .any _
theorem q_build23 {t : TypeId} {z0 z1 z2 : Value} {wl : Bool} [ht : TBuild P t 3 [z0, z1, z2]] {x1 x2 : Operand} {a1 a2 : AV} (h1 : AV.ev env x1 = a1) (h2 : AV.ev env x2 = a2)
    (o1 : OneC env os a1) (o2 : OneC env os a2) (hz : z1.oneCell' = true) :
    QOp P wl ⟨d, .build t #[(0, x1), (2, x2)], ty, pos, af, g⟩ env os (.agg [a1, .val z1, a2]) :=
  .of_run fun _ w gs tm hr => by
    have v1 := hr.ev x1
    rw [h1] at v1
    have v2 := hr.ev x2
    rw [h2] at v2
    obtain ⟨p1, c1⟩ := o1 _ _ _ _ hr _ v1
    obtain ⟨p2, c2⟩ := o2 _ _ _ _ hr _ v2
    refine ⟨.agg [Act.eval ⟨tm, []⟩ x1, z1, Act.eval ⟨tm, []⟩ x2].toArray, .agg rfl (by simp; exact ⟨p1, hz, p2⟩) (rv_list rfl fun i hi => ?_), fun w' _ => ?_⟩
    · match i, hi with
      | 0, _ => exact v1
      | 1, _ => exact .val _
      | 2, _ => exact v2
    · have hb : P.built t (#[(0, Act.eval ⟨tm, []⟩ x1), (2, Act.eval ⟨tm, []⟩ x2)] : Array (Nat × Value)).toList = some #[Act.eval ⟨tm, []⟩ x1, z1, Act.eval ⟨tm, []⟩ x2] := by
        rcases ht.bl with e | e <;> rw [e] <;> simp [Instr.fill, c1, c2, List.range_succ]
      simp [execOp, run_build (P := P) w' t _ _ hb]
end
theorem wrap_u64 (n : Int) : 0 ≤ IntKind.u64.wrap n ∧ IntKind.u64.wrap n < 18446744073709551616 := by
  simp only [IntKind.wrap, IntKind.bits, IntKind.signed]
  simp; omega
theorem one_by {env : Env} {os : List AO} {bs : List Int} : OneC env os (.ro (byR bs)) := fun _ _ _ _ _ v h => by
  cases h with
  | ro h =>
    obtain ⟨⟨a, c, rfl, _⟩, _⟩ := (h : BysAt _ _ v bs)
    exact ⟨rfl, rfl⟩
theorem one_rb {env : Env} {os : List AO} {u : Value} {bs : List Int} : OneC env os (.ro (roB u bs)) := fun _ _ _ _ _ v h => by
  cases h with
  | ro h =>
    obtain ⟨_, ⟨a, c, rfl, _⟩, _⟩ := (h : v = u ∧ BysAt _ _ v bs)
    exact ⟨rfl, rfl⟩

section
variable {P : Program} {env : Env} {os : List AO} {d : Tmp} {ty : TypeId} {pos : String} {af : Array Edge} {g : Option (Nat × Bool)} {l rest : List Oper} {K : APost} {q : Md}
theorem w_callsk {f : FuncId} {T : TypeId} {bs : List Int} {as0 : List Value} {Q : Value → Prop} {h0 : Nat} {a0 : AV} {at_ hh : Int} {x : Operand} {xs : List Operand} {ats : Array TypeId} (hc : AFnS P f T bs as0 Q) (hx : evo env x = some (.optr h0 0))
    (o0 : os[h0]? = some (.bx T [a0, .val (.int .i64 at_), .val (.int .u64 hh)])) (hxs : xs.map (AV.ev env) = as0.map AV.val) (ra : RdB a0 bs) (hI : SOk bs at_ hh)
    (h' : ∀ rv at' h2, Q rv → SOk bs at' h2 → AOps P .seq l rest K (env.up d (.val rv)) (os.set h0 (.bx T [a0, .val (.int .i64 at'), .val (.int .u64 h2)]))) :
    AOps P .seq l (⟨some d, .call { callee := .value (.func f), args := (x :: xs).toArray, argTypes := ats }, ty, pos, af, none⟩ :: rest) K env os :=
  AOps.ca (c_callsk hc (ev_of hx) o0 hI hxs ra) fun r e' o ⟨rv, at', h2, e1, e2, h3, h4, e5⟩ => by subst e1; subst e2; subst e5; exact h' rv at' h2 h3 h4
theorem w_lenby {t e : TypeId} [TSlice P t e] {x : Operand} {a : AV} {bs : List Int} (hw : wantedA l env ⟨some d, .call { callee := .builtin .len, args := #[x], argTypes := #[t] }, ty, pos, af, g⟩ = some true) (hx : evo env x = some a) (ha : RdB a bs)
    (h' : AOps P q l rest K (env.up d (.i bs.length)) os) : AOps P q l (⟨some d, .call { callee := .builtin .len, args := #[x], argTypes := #[t] }, ty, pos, af, g⟩ :: rest) K env os := AOps.qo hw (q_lenb (ev_of hx) ha) h'
theorem w_idxby {t e : TypeId} [TSlice P t e] [TCell P e] {x y : Operand} {a : AV} {bs : List Int} {i : Int} (hw : wantedA l env ⟨some d, .indexAddr t x y, ty, pos, af, g⟩ = some true) (hx : evo env x = some a) (ha : RdB a bs) (hy : evo env y = some (.i i)) (h0 : 0 ≤ i) (h1 : i < bs.length)
    (h' : AOps P q l rest K (env.up d (.ro (byP bs i))) os) : AOps P q l (⟨some d, .indexAddr t x y, ty, pos, af, g⟩ :: rest) K env os := AOps.qo hw (q_idxby (ev_of hx) ha (ev_of hy) h0 h1) h'
theorem w_ldby {t : TypeId} [TCell P t] {x : Operand} {bs : List Int} {i : Int} (hw : wantedA l env ⟨some d, .load t x, ty, pos, af, g⟩ = some true) (hq : q.wl = false) (hx : evo env x = some (.ro (byP bs i)))
    (h' : AOps P q l rest K (env.up d (.val (.int .u8 (geti bs i)))) os) : AOps P q l (⟨some d, .load t x, ty, pos, af, g⟩ :: rest) K env os := AOps.qo hw (by rw [hq]; exact q_ldby (ev_of hx)) h'
theorem w_umul {xt yt : TypeId} {x y : Operand} {a b : Int} (hw : wantedA l env ⟨some d, .binOp .mul xt x y yt, ty, pos, af, g⟩ = some true) (ha : evo env x = some (.val (.int .u64 a))) (hb : evo env y = some (.val (.int .u64 b)))
    (h' : ∀ c : Int, (0 ≤ c ∧ c < 18446744073709551616) → AOps P q l rest K (env.up d (.val (.int .u64 c))) os) : AOps P q l (⟨some d, .binOp .mul xt x y yt, ty, pos, af, g⟩ :: rest) K env os := AOps.qo hw (q_umul (ev_of ha) (ev_of hb)) (h' _ (wrap_u64 _))
theorem w_uadd {xt yt : TypeId} {x y : Operand} {a b : Int} (hw : wantedA l env ⟨some d, .binOp .add xt x y yt, ty, pos, af, g⟩ = some true) (ha : evo env x = some (.val (.int .u64 a))) (hb : evo env y = some (.val (.int .u64 b)))
    (h' : ∀ c : Int, (0 ≤ c ∧ c < 18446744073709551616) → AOps P q l rest K (env.up d (.val (.int .u64 c))) os) : AOps P q l (⟨some d, .binOp .add xt x y yt, ty, pos, af, g⟩ :: rest) K env os := AOps.qo hw (q_uadd (ev_of ha) (ev_of hb)) (h' _ (wrap_u64 _))
theorem w_umulx {xt yt : TypeId} {x y : Operand} {a b : Int} (hw : wantedA l env ⟨some d, .binOp .mul xt x y yt, ty, pos, af, g⟩ = some true) (ha : evo env x = some (.val (.int .u64 a))) (hb : evo env y = some (.val (.int .u64 b)))
    (h' : AOps P q l rest K (env.up d (.val (.int .u64 (IntKind.u64.wrap (a * b))))) os) : AOps P q l (⟨some d, .binOp .mul xt x y yt, ty, pos, af, g⟩ :: rest) K env os := AOps.qo hw (q_umul (ev_of ha) (ev_of hb)) h'
theorem w_uaddx {xt yt : TypeId} {x y : Operand} {a b : Int} (hw : wantedA l env ⟨some d, .binOp .add xt x y yt, ty, pos, af, g⟩ = some true) (ha : evo env x = some (.val (.int .u64 a))) (hb : evo env y = some (.val (.int .u64 b)))
    (h' : AOps P q l rest K (env.up d (.val (.int .u64 (IntKind.u64.wrap (a + b))))) os) : AOps P q l (⟨some d, .binOp .add xt x y yt, ty, pos, af, g⟩ :: rest) K env os := AOps.qo hw (q_uadd (ev_of ha) (ev_of hb)) h'
theorem w_ushr {xt yt : TypeId} {x y : Operand} {a : Int} (hw : wantedA l env ⟨some d, .binOp .shr xt x y yt, ty, pos, af, g⟩ = some true) (ha : evo env x = some (.val (.int .u64 a))) (hb : evo env y = some (.val (.int .u64 33))) (h0 : 0 ≤ a ∧ a < 18446744073709551616)
    (h' : ∀ c : Int, (0 ≤ c ∧ c < 18446744073709551616) → AOps P q l rest K (env.up d (.val (.int .u64 c))) os) : AOps P q l (⟨some d, .binOp .shr xt x y yt, ty, pos, af, g⟩ :: rest) K env os :=
  AOps.qo hw (show QOp P q.wl _ env os (.val (.int .u64 (a / 8589934592))) from q_bin (ev_of ha) (ev_of hb) (by simp [go_sem]) fun w => by
    have e : IntKind.u64.wrap (a / 8589934592) = a / 8589934592 := by simp [IntKind.wrap, IntKind.bits, IntKind.signed]; omega
    simp [go_sem, e]) (h' _ (by omega))
theorem w_uand {xt yt : TypeId} {x y : Operand} {a : Int} (hw : wantedA l env ⟨some d, .binOp .and xt x y yt, ty, pos, af, g⟩ = some true) (ha : evo env x = some (.val (.int .u64 a))) (hb : evo env y = some (.val (.int .u64 16777215))) (h0 : 0 ≤ a ∧ a < 18446744073709551616)
    (h' : ∀ c : Int, (0 ≤ c ∧ c ≤ 16777215) → AOps P q l rest K (env.up d (.val (.int .u64 c))) os) : AOps P q l (⟨some d, .binOp .and xt x y yt, ty, pos, af, g⟩ :: rest) K env os := by
  obtain ⟨n, rfl⟩ : ∃ n : Nat, a = n := ⟨a.toNat, by omega⟩
  have hle : n &&& 16777215 ≤ 16777215 := Nat.and_le_right
  refine AOps.qo hw (show QOp P q.wl _ env os (.val (.int .u64 ((n &&& 16777215 : Nat) : Int))) from q_bin (ev_of ha) (ev_of hb) (by simp [go_sem]) fun w => ?_) (h' _ (by omega))
  have e := bits_and_u64_nat n 16777215 (by omega) (by decide)
  have e2 : ((16777215 : Nat) : Int) = 16777215 := rfl
  rw [e2] at e
  simp [go_sem, e]
theorem w_convbi {src dst : TypeId} [TKind P src .u8] [TKind P dst .i64] {x : Operand} {a : Int} (hw : wantedA l env ⟨some d, .convert src dst x, ty, pos, af, g⟩ = some true) (ha : evo env x = some (.val (.int .u8 a))) (h0 : 0 ≤ a ∧ a ≤ 255)
    (h' : AOps P q l rest K (env.up d (.i a)) os) : AOps P q l (⟨some d, .convert src dst x, ty, pos, af, g⟩ :: rest) K env os :=
  AOps.qo hw (q_convb (k := .i64) (ev_of ha) (by simp [IntKind.wrap, IntKind.bits, IntKind.signed]; omega)) h'
theorem w_convbu {src dst : TypeId} [TKind P src .u8] [TKind P dst .u64] {x : Operand} {a : Int} (hw : wantedA l env ⟨some d, .convert src dst x, ty, pos, af, g⟩ = some true) (ha : evo env x = some (.val (.int .u8 a))) (h0 : 0 ≤ a ∧ a ≤ 255)
    (h' : AOps P q l rest K (env.up d (.val (.int .u64 a))) os) : AOps P q l (⟨some d, .convert src dst x, ty, pos, af, g⟩ :: rest) K env os :=
  AOps.qo hw (q_convb (k := .u64) (ev_of ha) (by simp [IntKind.wrap, IntKind.bits, IntKind.signed]; omega)) h'
theorem w_build23 {t : TypeId} {z0 z1 z2 : Value} [TBuild P t 3 [z0, z1, z2]] {x1 x2 : Operand} {a1 a2 : AV} (hw : wantedA l env ⟨some d, .build t #[(0, x1), (2, x2)], ty, pos, af, g⟩ = some true) (h1 : evo env x1 = some a1) (h2 : evo env x2 = some a2)
    (hz : z1.oneCell' = true) (o1 : OneC env os a1) (o2 : OneC env os a2) (h' : AOps P q l rest K (env.up d (.agg [a1, .val z1, a2])) os) : AOps P q l (⟨some d, .build t #[(0, x1), (2, x2)], ty, pos, af, g⟩ :: rest) K env os :=
  AOps.qo hw (q_build23 (ev_of h1) (ev_of h2) o1 o2 hz) h'
end
end Go.Proofs.Ytkcbihmpjkkccaa
/-
  Functions that make a source of numbers out of bytes. No condition.
-/
namespace Go.Proofs.Ytkcbihmpjkkccaa
open Go Go.RowKit

def AFnF (P : Program) (f : FuncId) (T : TypeId) (bs : List Int) : Prop :=
  HasBody P f ∧ ∀ w vC, BysAt w (fun _ => True) vC bs → Calls P f #[vC] w fun ev w' => ∃ g0 at_ h, ev = .returned g0.v ∧ SOk bs at_ h ∧ Sk T w.heap.size w' g0 vC at_ h ∧ Below w.heap.size w w'
theorem AFnF.of {P : Program} {f : FuncId} {fn : Func} {c : Code} {T : TypeId} {bs : List Int} {n : Nat} (hf : P.funcs[f]? = some fn) (hb : fn.body = some c) (hnm : (fn.name == "runtime.NumGoroutine") = false) (hn : fn.ntmps - 1 = n)
    (h : ∀ vC, AWp P c (fun _ _ => False) (fun _ _ _ => False) (fun env os => ∃ k at_ h, ResIs P fn env os (.optr k 0) ∧ os[k]? = some (skL T bs vC at_ h) ∧ SOk bs at_ h) (Env.start [.ro (roB vC bs)] n) []) : AFnF P f T bs := by
  refine ⟨⟨fn, c, hf, hnm, hb⟩, fun w vC hvC => calls_of_wp hf hb ?_⟩
  rw [show fn.ntmps - (#[vC] : Array Value).size = n from hn]
  have hvs : RVs w [.ro (roB vC bs)] #[vC] := ⟨rfl, fun i => by
    match i with
    | 0 => exact .ro ⟨rfl, hvC⟩
    | i + 1 => exact .any _⟩
  refine wp_mono (h vC w.heap.size w w [] _ (Rel.start hvs n) (Below.refl _ _)) ?_
  intro e a w' hq
  cases e with
  | normal => obtain ⟨_, _, _, _, _, _, hx⟩ := hq; exact hx.elim
  | exit j => obtain ⟨_, _, _, _, _, _, hx⟩ := hq; exact hx.elim
  | ret =>
    obtain ⟨env, os, gs, hr, hd, hbel, k, at_, hh, h1, h2, h3⟩ := hq
    obtain ⟨u, hu, hv⟩ := h1 _ _ _ _ hr
    cases hv with
    | @optr _ _ g hg =>
      obtain ⟨cs, d1, d2, d3, d4, d5, d6, d7⟩ := hr.ho _ _ _ hg h2
      match cs, d5 with
      | [z0, z1, z2], _ =>
        have q0 := d7 0
        have q1 := d7 1
        have q2 := d7 2
        have w0 : z0 = vC := by cases q0 with | ro h => exact h.1
        have w1 : z1 = .int .i64 at_ := by cases q1; rfl
        have w2 : z2 = .int .u64 hh := by cases q2; rfl
        subst w0 w1 w2
        exact ⟨hd, _, hu, g, at_, hh, by rw [d4], h3, ⟨d1, d6 _ (by simp), d2, d3, d4⟩, hbel⟩
  | goto l => exact (hq : False).elim
  | panic ch => exact (hq : False).elim
  | outgrown => exact (hq : False).elim
theorem AFnF.start {P : Program} {f : FuncId} {fn : Func} {nt : Nat} {T : TypeId} {bs : List Int} (hf : P.funcs[f]? = some fn) (hnt : fn.ntmps = nt) {c : Code} (hb : fn.body = some c) (hnm : (fn.name == "runtime.NumGoroutine") = false)
    (h : ∀ vC, AWp P c (fun _ _ => False) (fun _ _ _ => False) (fun env os => ∃ k at_ h, ResIs P fn env os (.optr k 0) ∧ os[k]? = some (skL T bs vC at_ h) ∧ SOk bs at_ h) (Env.start [.ro (roB vC bs)] (nt - 1)) []) : AFnF P f T bs :=
  AFnF.of hf hb hnm (by rw [hnt]) h

section
variable {P : Program} {env : Env} {os : List AO} {d : Option Tmp} {ty : TypeId} {pos : String} {af : Array Edge} {g : Option (Nat × Bool)}
theorem c_callsf {f : FuncId} {T : TypeId} {bs : List Int} {a0 : AV} (hc : AFnF P f T bs) {x : Operand} {ats : Array TypeId} (hx : AV.ev env x = a0) (ra : RdB a0 bs) :
    COp P ⟨d, .call { callee := .value (.func f), args := #[x], argTypes := ats }, ty, pos, af, g⟩ env os (fun r e' o => ∃ at' h', r = .optr os.length 0 ∧ e' = env ∧ SOk bs at' h' ∧ o = os ++ [.bx T [a0, .val (.int .i64 at'), .val (.int .u64 h')]]) := by
  intro base w gs tm hr
  have t0 := hr.ev x
  rw [hx] at t0
  have hb0 := ra _ _ _ _ t0
  refine ⟨f, _, run_call hc.1 [x] ats _ rfl w, ?_⟩
  refine (hc.2 w (Act.eval ⟨tm, []⟩ x) (hb0.mono fun b hb _ => ⟨trivial, rfl⟩)).mono ?_
  rintro ev w' ⟨g0, at', h', rfl, hI', hSk, hbel⟩
  obtain ⟨c1, c1', c2, c3, c4⟩ := hSk
  have hlt : g0.b < w'.heap.size := (Array.getElem?_eq_some_iff.1 c1).1
  have hno : (AO.bx T [a0, .val (.int .i64 at'), .val (.int .u64 h')]) ≠ .dead → ∀ b, b ∈ g0.bl → w.heap.size ≤ b ∧ b < w'.heap.size := fun _ b hb => by
    rw [c3] at hb
    simp only [List.mem_cons, List.not_mem_nil, or_false] at hb
    subst hb; exact ⟨c2, hlt⟩
  have k := keeps_new (o := AO.bx T [a0, .val (.int .i64 at'), .val (.int .u64 h')]) hr.hl hbel hno
  have hgs : ∀ (i : Nat) g', gs[i]? = some g' → (gs ++ [g0])[i]? = some g' := fun i g' e => by
    rw [List.getElem?_append_left (List.getElem?_eq_some_iff.1 e).1]; exact e
  refine ⟨g0.v, .optr os.length 0, env, _, gs ++ [g0], rfl, ⟨at', h', rfl, rfl, hI', rfl⟩, hr.new hbel _ g0 hno ?_, ?_, hbel.mono hr.hb⟩
  · refine ⟨[Act.eval ⟨tm, []⟩ x, .int .i64 at', .int .u64 h'], c1, Nat.le_trans hr.hb c2, c3, c4, rfl, ?_, fun j => ?_⟩
    · intro z hz
      simp only [List.mem_cons, List.not_mem_nil, or_false] at hz
      rcases hz with rfl | rfl | rfl
      · exact c1'
      · rfl
      · rfl
    · match j with
      | 0 => exact t0.mono k hgs
      | 1 => exact .val _
      | 2 => exact .val _
      | j + 3 => exact .any _
  · rw [c4, ← hr.hl]
    exact .optr len_new
end
section
variable {P : Program} {env : Env} {os : List AO} {d : Tmp} {ty : TypeId} {pos : String} {af : Array Edge} {l rest : List Oper} {K : APost}
theorem w_callsf {f : FuncId} {T : TypeId} {bs : List Int} {a0 : AV} {m : Nat} {x : Operand} {ats : Array TypeId} (hc : AFnF P f T bs) (hx : evo env x = some a0) (ra : RdB a0 bs) (hm : os.length = m)
    (h' : ∀ at' h2, SOk bs at' h2 → AOps P .seq l rest K (env.up d (.optr m 0)) (os ++ [.bx T [a0, .val (.int .i64 at'), .val (.int .u64 h2)]])) :
    AOps P .seq l (⟨some d, .call { callee := .value (.func f), args := #[x], argTypes := ats }, ty, pos, af, none⟩ :: rest) K env os := by
  subst hm
  exact AOps.ca (c_callsf hc (ev_of hx) ra) fun r e' o ⟨at', h2, e1, e2, h4, e5⟩ => by subst e1; subst e2; subst e5; exact h' at' h2 h4
end
end Go.Proofs.Ytkcbihmpjkkccaa
/-
  The source of the draws: a number from it, and the source itself. Condition: not too many bytes.
-/
namespace Go.Proofs.Ytkcbihmpjkkccaa
open Go Go.RowKit
attribute [local irreducible] AWp AOps ResIs Ret1 QOp LOp COp AFnV AFn Imms LeE LeO
set_option maxHeartbeats 1000000
set_option linter.unusedSimpArgs false
set_option linter.unusedVariables false

/-- A number below n, or 0. -/
def Nx (n : Int) (rv : Value) : Prop := ∃ x : Int, rv = .int .i64 x ∧ 0 ≤ x ∧ (1 ≤ n → x < n) ∧ (n < 1 → x = 0)
set_option maxHeartbeats 4000000 in
theorem l01Next_c (bs : List Int) (hl : bs.length ≤ 1048576) (hbs : ∀ i, 0 ≤ geti bs i ∧ geti bs i ≤ 255) (n : Int) (hn : n ≤ 4611686018427387904) :
    AFnS Try.prog 12 47 bs [.int .i64 n] (Nx n) := by
  (refine AFnS.start Try.func12 Try.ntmps12 rfl (by kernel_rfl) fun K vC at0 hh0 hI0 => ?_; simp only [Env.start, enumF, List.map_cons, List.map_nil, List.length_cons, List.length_nil, Nat.reduceAdd, Nat.reduceSub, Nat.zero_add, List.cons_append, List.nil_append])
  obtain ⟨⟨a0, a1⟩, h0⟩ := hI0
  have hb0 := hbs at0
  repeat' (first | (apply AOps.nil; try simp only [List.nil_append, List.cons_append, List.set_cons_zero, List.set_cons_succ, List.length_cons, List.length_nil, Nat.reduceAdd, AV.sh, AV.sh1, AV.sh0, AO.sh, List.map_cons, List.map_nil, Nat.zero_add, Nat.add_zero, setAll]) | (apply w_move; exact rfl; exact rfl) | (apply w_assign; exact rfl; exact rfl) | apply AWp.seq | apply AWp.region | ((apply AWp.condP; exact rfl) <;> intro h) | apply AWp.ret | apply AWp.skip | (apply AWp.regionQ; kernel_rfl; kernel_rfl) | ((first | apply w_nilck | apply w_convi); iterate 2 exact rfl) | (apply w_lenby; exact rfl; exact rfl; (exact rdB_ro _ _)) | (apply w_idxby; exact rfl; exact rfl; (exact rdB_ro _ _); exact rfl) | ((first | apply w_ldby | apply w_lss | apply w_add | apply w_mul | apply w_fa); iterate 3 exact rfl) | (apply w_umul; exact rfl; exact rfl; exact rfl; intro cU hU) | (apply w_uadd; exact rfl; exact rfl; exact rfl; intro cU hU) | (apply w_ushr; exact rfl; exact rfl; exact rfl; (focus (assumption)); intro cU hU) | (apply w_uand; exact rfl; exact rfl; exact rfl; (focus (assumption)); intro cU hU) | (apply w_convbi; exact rfl; exact rfl; exact hbs _) | omega | (apply w_rem; exact rfl; exact rfl; exact rfl; (focus (omega; done)); (focus (omega; done))) | (apply w_ldb; iterate 5 exact rfl) | (apply w_stbv; iterate 6 exact rfl) | (apply inI_of <;> omega))
  · exact ⟨_, _, _, .v1 Try.results12 rfl, ⟨0, rfl, by omega, by omega, fun _ => rfl⟩, ⟨⟨a0, a1⟩, h0⟩, _, rfl⟩
  · have hm := Int.emod_nonneg (cU + geti bs at0) (b := n) (by omega)
    have hm2 := Int.emod_lt_of_pos (cU + geti bs at0) (b := n) (by omega)
    exact ⟨_, _, _, .v1 Try.results12 rfl, ⟨_, rfl, hm, fun _ => hm2, fun _ => by omega⟩, ⟨⟨by omega, by omega⟩, by assumption⟩, _, rfl⟩
  · have hm := Int.emod_nonneg cU (b := n) (by omega)
    have hm2 := Int.emod_lt_of_pos cU (b := n) (by omega)
    exact ⟨_, _, _, .v1 Try.results12 rfl, ⟨_, rfl, hm, fun _ => hm2, fun _ => by omega⟩, ⟨⟨by omega, by omega⟩, by assumption⟩, _, rfl⟩
set_option maxHeartbeats 4000000 in
theorem l01From_c (bs : List Int) (hl : bs.length ≤ 1048576) (hbs : ∀ i, 0 ≤ geti bs i ∧ geti bs i ≤ 255) : AFnF Try.prog 11 47 bs := by
  (refine AFnF.start Try.func11 Try.ntmps11 rfl (by kernel_rfl) fun vC => ?_; simp only [Env.start, enumF, List.map_cons, List.map_nil, List.length_cons, List.length_nil, Nat.reduceAdd, Nat.reduceSub, Nat.zero_add, List.cons_append, List.nil_append])
  repeat' (first | (apply AOps.nil; try simp only [List.nil_append, List.cons_append, List.set_cons_zero, List.set_cons_succ, List.length_cons, List.length_nil, Nat.reduceAdd, AV.sh, AV.sh1, AV.sh0, AO.sh, List.map_cons, List.map_nil, Nat.zero_add, Nat.add_zero, setAll]) | (apply w_move; exact rfl; exact rfl) | (apply w_assign; exact rfl; exact rfl) | apply AWp.seq | apply AWp.region | apply AWp.block | ((first | apply w_convu | apply w_boxa); iterate 2 exact rfl) | (apply w_lenby; exact rfl; exact rfl; (exact rdB_ro _ _)) | (apply w_uadd; exact rfl; exact rfl; exact rfl; intro cU hU) | (apply w_build23; exact rfl; exact rfl; exact rfl; exact rfl; (exact one_rb); exact one_val rfl rfl) | omega)
  refine AWp.loop (ι := Nat × Int) (fun x => ⟨38, [(0, .ro (roB vC bs)), (3, .optr 0 0), (4, .i x.1)]⟩) (fun x => [skL 47 bs vC 0 x.2]) (fun x => x.1 ≤ bs.length ∧ (0 ≤ x.2 ∧ x.2 < 18446744073709551616)) (fun x => bs.length - x.1) (0, cU) ⟨Nat.zero_le _, hU⟩ ⟨lee rfl (by (repeat (first | exact le_nil | refine le_eq rfl rfl ?_))), by (repeat (first | exact lo_nil | refine lo_eq rfl ?_)), rfl, rfl⟩ ?_
  rintro ⟨i, hv⟩ ⟨i0, hh⟩
  simp only at i0 hh
  by_cases hi : i < bs.length
  · by_cases h4 : i < 4096
    · repeat' (first | (apply AOps.nil; try simp only [List.nil_append, List.cons_append, List.set_cons_zero, List.set_cons_succ, List.length_cons, List.length_nil, Nat.reduceAdd, AV.sh, AV.sh1, AV.sh0, AO.sh, List.map_cons, List.map_nil, Nat.zero_add, Nat.add_zero, setAll]) | ((apply AOps.splitP; exact rfl; exact rfl) <;> intro h) | (apply w_move; exact rfl; exact rfl) | (apply w_assign; exact rfl; exact rfl) | apply AWp.seq | apply AWp.region | ((apply AWp.condP; exact rfl) <;> intro h) | (apply AWp.condF; exact rfl) | apply AWp.block | apply AWp.ret | apply AWp.exit | apply AWp.skip | (apply w_skip; exact rfl) | (apply w_pickT; exact rfl; exact rfl; exact rfl) | (apply w_pickF; exact rfl; exact rfl; exact rfl) | (apply w_lenby; exact rfl; exact rfl; (exact rdB_ro _ _)) | ((apply w_lss); iterate 3 exact rfl) | omega)
      have hw := wrap_u64 (IntKind.u64.wrap (IntKind.u64.wrap (hv * 1099511628211) + geti bs i) + 11)
      refine AWp.regionG [] (by kernel_rfl) (envC := ⟨38, [(0, .ro (roB vC bs)), (3, .optr 0 0), (4, .i i)]⟩) (osC := [skL 47 bs vC 0 (IntKind.u64.wrap (IntKind.u64.wrap (IntKind.u64.wrap (hv * 1099511628211) + geti bs i) + 11))]) rfl (by first | exact rfl | (simp [AO.lim, AV.lim, bL_lim]; done)) ?_ ?_
      · repeat' (first | (apply AOps.nil; try simp only [List.nil_append, List.cons_append, List.set_cons_zero, List.set_cons_succ, List.length_cons, List.length_nil, Nat.reduceAdd, AV.sh, AV.sh1, AV.sh0, AO.sh, List.map_cons, List.map_nil, Nat.zero_add, Nat.add_zero, setAll]) | (apply w_move; exact rfl; exact rfl) | ((first | apply w_umulx | apply w_uaddx | apply w_ldby | apply w_idx | apply w_fa); iterate 3 exact rfl) | ((apply w_nilck); iterate 2 exact rfl) | (apply w_idxby; exact rfl; exact rfl; (exact rdB_ro _ _); exact rfl) | (apply w_convbu; exact rfl; exact rfl; exact hbs _) | apply AllOfG.nil | (apply AllOfG.consQ; exact rfl; exact rfl) | (apply AllOfG.consS; exact rfl; exact rfl) | (apply AAnyG.takeW; exact rfl; exact rfl; kernel_rfl; kernel_rfl) | (apply AAnyG.takeL; exact rfl; exact rfl; kernel_rfl) | (apply AAnyG.all; exact rfl) | (apply AAnyG.done; exact rfl) | omega | (apply w_ldb; iterate 5 exact rfl) | (apply w_stbv; iterate 6 exact rfl))
        all_goals (apply Or.inl; refine ⟨lee rfl ?_, ?_, rfl, (by first | exact rfl | (simp [AO.lim, AV.lim, bL_lim]; done))⟩; (focus ((repeat (first | exact le_nil | refine le_eq rfl rfl ?_)); done)); (focus ((repeat (first | exact lo_nil | refine lo_eq rfl ?_)); done)))
      generalize IntKind.u64.wrap (IntKind.u64.wrap (IntKind.u64.wrap (hv * 1099511628211) + geti bs i) + 11) = h2 at *
      repeat' (first | (apply AOps.nil; try simp only [List.nil_append, List.cons_append, List.set_cons_zero, List.set_cons_succ, List.length_cons, List.length_nil, Nat.reduceAdd, AV.sh, AV.sh1, AV.sh0, AO.sh, List.map_cons, List.map_nil, Nat.zero_add, Nat.add_zero, setAll]) | (apply w_move; exact rfl; exact rfl) | (apply w_assign; exact rfl; exact rfl) | apply AWp.region | ((apply w_add); iterate 3 exact rfl) | (apply inI_of <;> omega))
      exact ⟨(i + 1, h2), ⟨by simp only; omega, hw⟩, by simp only; omega, ⟨lee rfl (by (repeat (first | exact le_nil | refine le_eq rfl rfl ?_))), by (repeat (first | exact lo_nil | refine lo_eq rfl ?_)), rfl, rfl⟩⟩
    · repeat' (first | (apply AOps.nil; try simp only [List.nil_append, List.cons_append, List.set_cons_zero, List.set_cons_succ, List.length_cons, List.length_nil, Nat.reduceAdd, AV.sh, AV.sh1, AV.sh0, AO.sh, List.map_cons, List.map_nil, Nat.zero_add, Nat.add_zero, setAll]) | ((apply AOps.splitP; exact rfl; exact rfl) <;> intro h) | (apply w_move; exact rfl; exact rfl) | (apply w_assign; exact rfl; exact rfl) | apply AWp.seq | apply AWp.region | ((apply AWp.condP; exact rfl) <;> intro h) | (apply AWp.condF; exact rfl) | apply AWp.block | apply AWp.ret | apply AWp.exit | apply AWp.skip | (apply w_skip; exact rfl) | (apply w_pickT; exact rfl; exact rfl; exact rfl) | (apply w_pickF; exact rfl; exact rfl; exact rfl) | (apply w_lenby; exact rfl; exact rfl; (exact rdB_ro _ _)) | ((apply w_lss); iterate 3 exact rfl) | omega)
      exact ⟨0, 0, hv, .v1 Try.results11 rfl, rfl, ⟨by omega, by omega⟩, hh⟩
  · repeat' (first | (apply AOps.nil; try simp only [List.nil_append, List.cons_append, List.set_cons_zero, List.set_cons_succ, List.length_cons, List.length_nil, Nat.reduceAdd, AV.sh, AV.sh1, AV.sh0, AO.sh, List.map_cons, List.map_nil, Nat.zero_add, Nat.add_zero, setAll]) | ((apply AOps.splitP; exact rfl; exact rfl) <;> intro h) | (apply w_move; exact rfl; exact rfl) | (apply w_assign; exact rfl; exact rfl) | apply AWp.seq | apply AWp.region | ((apply AWp.condP; exact rfl) <;> intro h) | (apply AWp.condF; exact rfl) | apply AWp.block | apply AWp.ret | apply AWp.exit | apply AWp.skip | (apply w_skip; exact rfl) | (apply w_pickT; exact rfl; exact rfl; exact rfl) | (apply w_pickF; exact rfl; exact rfl; exact rfl) | (apply w_lenby; exact rfl; exact rfl; (exact rdB_ro _ _)) | ((apply w_lss); iterate 3 exact rfl) | omega)
    exact ⟨0, 0, hv, .v1 Try.results11 rfl, rfl, ⟨by omega, by omega⟩, hh⟩
end Go.Proofs.Ytkcbihmpjkkccaa
/-
  The draw of two numbers for torus polynomials; a list of bytes that is too long. Condition: not too many bytes.
-/
namespace Go.Proofs.Ytkcbihmpjkkccaa
open Go Go.RowKit
attribute [local irreducible] AWp AOps ResIs Ret1 QOp LOp COp AFnV AFn Imms LeE LeO
set_option maxHeartbeats 1000000
set_option linter.unusedSimpArgs false
set_option linter.unusedVariables false

theorem big_c (bs : List Int) : AFnV Try.prog 4 [.ro (byR bs)] (.bool (decide ((4096 : Int) < bs.length))) := by
  (refine AFnV.start Try.func4 Try.ntmps4 rfl (by kernel_rfl) fun hk => ?_; simp only [Env.start, enumF, List.length_cons, List.length_nil, Nat.reduceAdd, Nat.reduceSub, List.cons_append, List.nil_append])
  repeat' (first
  | (apply AOps.nil; try simp only [List.nil_append, List.cons_append, List.set_cons_zero, List.set_cons_succ, List.length_cons, List.length_nil, Nat.reduceAdd, AV.sh, AV.sh1, AV.sh0, AO.sh, List.map_cons, List.map_nil, Nat.zero_add, Nat.add_zero, setAll])
  | ((apply AOps.splitP; exact rfl; exact rfl) <;> intro h)
  | ((apply AOps.splitN; exact rfl; exact rfl) <;> intro h)
  | (apply w_move; exact rfl; exact rfl)
  | (apply w_assign; exact rfl; exact rfl)
  | apply AWp.seq
  | apply AWp.region
  | ((apply AWp.condP; exact rfl) <;> intro h)
  | ((apply AWp.condN; exact rfl) <;> intro h)
  | (apply AWp.condT; exact rfl)
  | (apply AWp.condF; exact rfl)
  | ((apply AWp.condB; exact rfl) <;> intro h)
  | apply AWp.block
  | apply AWp.ret
  | apply AWp.exit
  | apply AWp.skip
  | (apply AWp.regionQ; kernel_rfl; kernel_rfl)
  | (apply if_pos'; exact rfl)
  | (apply if_neg'; decide)
  | (apply w_skip; exact rfl)
  | (apply w_pickT; exact rfl; exact rfl; exact rfl)
  | (apply w_pickF; exact rfl; exact rfl; exact rfl)
  | (apply w_len; exact rfl; exact rfl; first | exact .ints _ | exact .intss _ | exact .sli rfl | exact .sls rfl | exact .slr rfl | exact .orow rfl | exact .nil)
  | ((first | apply w_nilck | apply w_convu | apply w_convi | apply w_not | apply w_neg | apply w_conv | apply w_build0 | apply w_bs1 | apply w_boxa); iterate 2 exact rfl)
  | (apply w_lenby; exact rfl; exact rfl; (first | exact rdB_by _ | exact rdB_ro _ _))
  | (apply w_idxby; exact rfl; exact rfl; (first | exact rdB_by _ | exact rdB_ro _ _); exact rfl)
  | ((first | apply w_ldby | apply w_lss | apply w_leq | apply w_gtr | apply w_geq | apply w_eql | apply w_neq | apply w_add | apply w_sub | apply w_mul | apply w_idx | apply w_ld | apply w_fld | apply w_fa | apply w_extv | apply w_min | apply w_max | apply w_slhi | apply w_sllo | apply w_bs2); iterate 3 exact rfl)
  | (apply w_umul; exact rfl; exact rfl; exact rfl; intro cU hU)
  | (apply w_uadd; exact rfl; exact rfl; exact rfl; intro cU hU)
  | (apply w_ushr; exact rfl; exact rfl; exact rfl; (focus (first | assumption | omega)); intro cU hU)
  | (apply w_uand; exact rfl; exact rfl; exact rfl; (focus (first | assumption | omega)); intro cU hU)
  | (apply w_convbi; exact rfl; exact rfl; exact hbs _)
  | (apply w_convbu; exact rfl; exact rfl; exact hbs _)
  | (apply w_build23; exact rfl; exact rfl; exact rfl; exact rfl; (first | exact one_by | exact one_rb); exact one_val rfl rfl)
  | ((first | apply w_eqlb | apply w_neqb | apply w_idxs | apply w_lds | apply w_ext); iterate 3 exact rfl)
  | (apply w_rem; exact rfl; exact rfl; exact rfl; (focus (omega; done)); (focus (omega; done)))
  | (apply w_quo; exact rfl; exact rfl; exact rfl; (focus (omega; done)); (focus (omega; done)))
  | (apply w_remT; exact rfl; exact rfl; exact rfl)
  | (apply w_quoT; exact rfl; exact rfl; exact rfl)
  | (apply w_idxo; exact rfl; exact rfl; (first | exact .sli rfl | exact .sls rfl | exact .slr rfl); exact rfl)
  | ((first | apply w_idxr | apply w_ldr); iterate 4 exact rfl)
  | (apply w_ldo; iterate 4 exact rfl)
  | (apply w_ldls; iterate 4 exact rfl)
  | (apply w_ldrp; iterate 4 exact rfl)
  | (apply w_ldb; iterate 5 exact rfl)
  | (apply w_ldst; iterate 5 exact rfl)
  | ((first | apply w_sllh | apply w_stbi); iterate 4 exact rfl)
  | ((first | apply w_oslo | apply w_oshi | apply w_stbii); iterate 4 exact rfl)
  | (apply w_build1; exact rfl; exact rfl; (first | exact one_val rfl rfl | exact one_ints | exact one_intss | exact one_own rfl True.intro))
  | (apply w_build2; exact rfl; exact rfl; exact rfl; (first | exact one_val rfl rfl | exact one_ints | exact one_intss | exact one_own rfl True.intro); (first | exact one_val rfl rfl | exact one_ints | exact one_intss | exact one_own rfl True.intro))
  | (apply w_bs0; iterate 1 exact rfl)
  | (apply w_appn; exact rfl; exact rfl; (first | exact .ints _ | exact .sli rfl | exact .orow rfl | exact .nil | exact .osub rfl (by simp; omega)); exact rfl)
  | (apply w_app; exact rfl; exact rfl; exact rfl; exact rfl; (first | exact .ints _ | exact .sli rfl | exact .orow rfl | exact .nil | exact .osub rfl (by simp; omega)); rotate_left 1; simp only [Env.mp, List.map_cons, List.map_nil, List.set_cons_zero, List.set_cons_succ, AV.kill, AV.kill1, AO.kill, AV.noRow, AV.noRow1, AO.via, reduceIte, Nat.reduceEqDiff, Nat.reduceLT, Env.up, Nat.zero_ne_one, Nat.one_ne_zero, Nat.reduceAdd, List.cons_append, List.nil_append]; rotate_left 1)
  | (apply w_alst; iterate 2 exact rfl)
  | (apply w_alone; iterate 3 exact rfl)
  | (apply w_mki; exact rfl; exact rfl; rotate_left 3; exact rfl; rotate_left 1)
  | (apply w_mkr; exact rfl; exact rfl; rotate_left 3; exact rfl; rotate_left 1)
  | (apply w_sti; exact rfl; exact rfl; rotate_left 1; exact rfl; rotate_left 2)
  | (apply w_stst; iterate 5 exact rfl)
  | (apply w_stbv; iterate 6 exact rfl)
  | (apply w_stbo; exact rfl; exact rfl; exact rfl; exact rfl; exact rfl; exact True.intro)
  | ((apply AOps.splitB; exact rfl; exact rfl) <;> intro h)
  | apply AllOf.nil
  | (apply AllOf.cons; exact rfl)
  | (apply AAny.take; exact rfl; exact rfl; kernel_rfl; kernel_rfl)
  | (apply AAny.all; exact rfl)
  | (apply AAny.done; exact rfl)
  | (apply inI_of <;> omega)
  | omega
  | (simp <;> omega))
  exact .bool Try.results4 rfl rfl
def IsPQ (r : AV) (os : List AO) : Prop := ∃ p q : Nat, r = .val (.tuple #[.int .i64 p, .int .i64 q]) ∧ (p ≤ 13 ∨ (30 ≤ p ∧ p ≤ 43)) ∧ (1 ≤ q ∧ q ≤ 14) ∧ os = []
theorem drawTorus_c (bs : List Int) (hl : bs.length ≤ 1048576) (hbs : ∀ i, 0 ≤ geti bs i ∧ geti bs i ≤ 255) : AFn Try.prog 5 [.ro (byR bs)] IsPQ := by
  have hf := l01From_c bs hl hbs
  have h14 := l01Next_c bs hl hbs 14 (by omega)
  have h12 := l01Next_c bs hl hbs 12 (by omega)
  (refine AFn.start Try.func5 Try.ntmps5 rfl (by kernel_rfl) fun hk => ?_; simp only [Env.start, enumF, List.length_cons, List.length_nil, Nat.reduceAdd, Nat.reduceSub, List.cons_append, List.nil_append])
  repeat' (first
  | (apply AOps.nil; try simp only [List.nil_append, List.cons_append, List.set_cons_zero, List.set_cons_succ, List.length_cons, List.length_nil, Nat.reduceAdd, AV.sh, AV.sh1, AV.sh0, AO.sh, List.map_cons, List.map_nil, Nat.zero_add, Nat.add_zero, setAll])
  | ((apply AOps.splitP; exact rfl; exact rfl) <;> intro h)
  | ((apply AOps.splitN; exact rfl; exact rfl) <;> intro h)
  | (apply w_move; exact rfl; exact rfl)
  | (apply w_assign; exact rfl; exact rfl)
  | apply AWp.seq
  | apply AWp.region
  | ((apply AWp.condP; exact rfl) <;> intro h)
  | ((apply AWp.condN; exact rfl) <;> intro h)
  | (apply AWp.condT; exact rfl)
  | (apply AWp.condF; exact rfl)
  | ((apply AWp.condB; exact rfl) <;> intro h)
  | apply AWp.block
  | apply AWp.ret
  | apply AWp.exit
  | apply AWp.skip
  | (apply if_pos'; exact rfl)
  | (apply if_neg'; decide)
  | (apply w_skip; exact rfl)
  | (apply w_pickT; exact rfl; exact rfl; exact rfl)
  | (apply w_pickF; exact rfl; exact rfl; exact rfl)
  | (apply w_len; exact rfl; exact rfl; first | exact .ints _ | exact .intss _ | exact .sli rfl | exact .sls rfl | exact .slr rfl | exact .orow rfl | exact .nil)
  | ((first | apply w_nilck | apply w_convu | apply w_convi | apply w_not | apply w_neg | apply w_conv | apply w_build0 | apply w_bs1 | apply w_boxa); iterate 2 exact rfl)
  | (apply w_lenby; exact rfl; exact rfl; (first | exact rdB_by _ | exact rdB_ro _ _))
  | (apply w_idxby; exact rfl; exact rfl; (first | exact rdB_by _ | exact rdB_ro _ _); exact rfl)
  | ((first | apply w_ldby | apply w_lss | apply w_leq | apply w_gtr | apply w_geq | apply w_eql | apply w_neq | apply w_add | apply w_sub | apply w_mul | apply w_idx | apply w_ld | apply w_fld | apply w_fa | apply w_extv | apply w_min | apply w_max | apply w_slhi | apply w_sllo | apply w_bs2); iterate 3 exact rfl)
  | (apply w_umul; exact rfl; exact rfl; exact rfl; intro cU hU)
  | (apply w_uadd; exact rfl; exact rfl; exact rfl; intro cU hU)
  | (apply w_ushr; exact rfl; exact rfl; exact rfl; (focus (first | assumption | omega)); intro cU hU)
  | (apply w_uand; exact rfl; exact rfl; exact rfl; (focus (first | assumption | omega)); intro cU hU)
  | (apply w_convbi; exact rfl; exact rfl; exact hbs _)
  | (apply w_convbu; exact rfl; exact rfl; exact hbs _)
  | (apply w_build23; exact rfl; exact rfl; exact rfl; exact rfl; (first | exact one_by | exact one_rb); exact one_val rfl rfl)
  | (apply w_callsf (hf); exact rfl; (first | exact rdB_by _ | exact rdB_ro _ _); exact rfl; (intro atN hN hIN; try simp only [List.nil_append, List.cons_append, List.set_cons_zero, List.set_cons_succ, List.length_cons, List.length_nil, Nat.reduceAdd, AV.sh, AV.sh1, AV.sh0, AO.sh, List.map_cons, List.map_nil, Nat.zero_add, Nat.add_zero, setAll]))
  | (apply w_callsk (h14); exact rfl; exact rfl; exact rfl; (first | exact rdB_by _ | exact rdB_ro _ _); (focus assumption); (rintro _ atN hN ⟨x, rfl, hx⟩ hIN; try simp only [List.nil_append, List.cons_append, List.set_cons_zero, List.set_cons_succ, List.length_cons, List.length_nil, Nat.reduceAdd, AV.sh, AV.sh1, AV.sh0, AO.sh, List.map_cons, List.map_nil, Nat.zero_add, Nat.add_zero, setAll]))
  | (apply w_callsk (h12); exact rfl; exact rfl; exact rfl; (first | exact rdB_by _ | exact rdB_ro _ _); (focus assumption); (rintro _ atN hN ⟨x, rfl, hx⟩ hIN; try simp only [List.nil_append, List.cons_append, List.set_cons_zero, List.set_cons_succ, List.length_cons, List.length_nil, Nat.reduceAdd, AV.sh, AV.sh1, AV.sh0, AO.sh, List.map_cons, List.map_nil, Nat.zero_add, Nat.add_zero, setAll]))
  | omega
  | ((first | apply w_eqlb | apply w_neqb | apply w_idxs | apply w_lds | apply w_ext); iterate 3 exact rfl)
  | (apply w_rem; exact rfl; exact rfl; exact rfl; (focus (omega; done)); (focus (omega; done)))
  | (apply w_quo; exact rfl; exact rfl; exact rfl; (focus (omega; done)); (focus (omega; done)))
  | (apply w_remT; exact rfl; exact rfl; exact rfl)
  | (apply w_quoT; exact rfl; exact rfl; exact rfl)
  | (apply w_idxo; exact rfl; exact rfl; (first | exact .sli rfl | exact .sls rfl | exact .slr rfl); exact rfl)
  | ((first | apply w_idxr | apply w_ldr); iterate 4 exact rfl)
  | (apply w_ldo; iterate 4 exact rfl)
  | (apply w_ldls; iterate 4 exact rfl)
  | (apply w_ldrp; iterate 4 exact rfl)
  | (apply w_ldb; iterate 5 exact rfl)
  | (apply w_ldst; iterate 5 exact rfl)
  | ((first | apply w_sllh | apply w_stbi); iterate 4 exact rfl)
  | ((first | apply w_oslo | apply w_oshi | apply w_stbii); iterate 4 exact rfl)
  | (apply w_build1; exact rfl; exact rfl; (first | exact one_val rfl rfl | exact one_ints | exact one_intss | exact one_own rfl True.intro))
  | (apply w_build2; exact rfl; exact rfl; exact rfl; (first | exact one_val rfl rfl | exact one_ints | exact one_intss | exact one_own rfl True.intro); (first | exact one_val rfl rfl | exact one_ints | exact one_intss | exact one_own rfl True.intro))
  | (apply w_bs0; iterate 1 exact rfl)
  | (apply w_appn; exact rfl; exact rfl; (first | exact .ints _ | exact .sli rfl | exact .orow rfl | exact .nil | exact .osub rfl (by simp; omega)); exact rfl)
  | (apply w_app; exact rfl; exact rfl; exact rfl; exact rfl; (first | exact .ints _ | exact .sli rfl | exact .orow rfl | exact .nil | exact .osub rfl (by simp; omega)); rotate_left 1; simp only [Env.mp, List.map_cons, List.map_nil, List.set_cons_zero, List.set_cons_succ, AV.kill, AV.kill1, AO.kill, AV.noRow, AV.noRow1, AO.via, reduceIte, Nat.reduceEqDiff, Nat.reduceLT, Env.up, Nat.zero_ne_one, Nat.one_ne_zero, Nat.reduceAdd, List.cons_append, List.nil_append]; rotate_left 1)
  | (apply w_alst; iterate 2 exact rfl)
  | (apply w_alone; iterate 3 exact rfl)
  | (apply w_mki; exact rfl; exact rfl; rotate_left 3; exact rfl; rotate_left 1)
  | (apply w_mkr; exact rfl; exact rfl; rotate_left 3; exact rfl; rotate_left 1)
  | (apply w_sti; exact rfl; exact rfl; rotate_left 1; exact rfl; rotate_left 2)
  | (apply w_stst; iterate 5 exact rfl)
  | (apply w_stbv; iterate 6 exact rfl)
  | (apply w_stbo; exact rfl; exact rfl; exact rfl; exact rfl; exact rfl; exact True.intro)
  | ((apply AOps.splitB; exact rfl; exact rfl) <;> intro h)
  | apply AllOf.nil
  | (apply AllOf.cons; exact rfl)
  | (apply AAny.take; exact rfl; exact rfl; kernel_rfl; kernel_rfl)
  | (apply AAny.all; exact rfl)
  | (apply AAny.done; exact rfl)
  | (apply inI_of <;> omega)
  | omega
  | (simp <;> omega))
  rename_i y hy _ _ _ z hz _
  obtain ⟨X, rfl⟩ : ∃ X : Nat, x = X := ⟨x.toNat, by omega⟩
  obtain ⟨Y, rfl⟩ : ∃ Y : Nat, y = Y := ⟨y.toNat, by omega⟩
  obtain ⟨Z, rfl⟩ : ∃ Z : Nat, z = Z := ⟨z.toNat, by omega⟩
  refine ⟨_, _, _, .vv2 Try.results5 rfl rfl, .val _, Y + Z / 11 * 30, 1 + X, ?_, by omega, by omega, rfl⟩
  congr 1
end Go.Proofs.Ytkcbihmpjkkccaa
/-
  Products with a binomial in the program, and equal lists. No condition but bounds.
-/
namespace Go.Proofs.Ytkcbihmpjkkccaa
open Go Go.RowKit
open Cy (Ser Pol Phi xp)
attribute [local irreducible] AWp AOps ResIs Ret1 QOp LOp COp AFnV AFn Imms LeE LeO
set_option maxHeartbeats 1000000
set_option linter.unusedSimpArgs false
set_option linter.unusedVariables false

theorem likeInts_t (xs : List Int) (hl : xs.length ≤ 1048576) : AFnV Try.prog 8 [.ints xs, .ints xs] (.bool true) := by
  (refine AFnV.start Try.func8 Try.ntmps8 rfl (by kernel_rfl) fun hk => ?_; simp only [Env.start, enumF, List.length_cons, List.length_nil, Nat.reduceAdd, Nat.reduceSub, List.cons_append, List.nil_append])
  repeat' (first | (apply AOps.nil; try simp only [List.nil_append, List.cons_append, List.set_cons_zero, List.set_cons_succ, List.length_cons, List.length_nil, Nat.reduceAdd, AV.sh, AV.sh1, AV.sh0, AO.sh, List.map_cons, List.map_nil, Nat.zero_add, Nat.add_zero, setAll]) | (apply w_move; exact rfl; exact rfl) | (apply w_assign; exact rfl; exact rfl) | apply AWp.seq | apply AWp.region | ((apply AWp.condP; exact rfl) <;> intro h) | apply AWp.block | apply AWp.ret | apply AWp.skip | (apply w_len; exact rfl; exact rfl; first | exact .ints _ | exact .intss _ | exact .sli rfl | exact .sls rfl | exact .slr rfl | exact .orow rfl | exact .nil) | omega | ((apply w_neq); iterate 3 exact rfl))
  all_goals try (exfalso; omega)
  refine AWp.loop (ι := Nat) (fun k => ⟨26, [(0, .ints xs), (1, .ints xs), (5, .i k)]⟩) (fun _ => []) (fun k => k ≤ xs.length) (fun k => xs.length - k) 0 (by omega) ⟨lee rfl (by (repeat (first | exact le_nil | refine le_eq rfl rfl ?_))), by (repeat (exact lo_nil)), rfl, rfl⟩ ?_
  intro k k0
  by_cases hk : k < xs.length
  · repeat' (first | (apply AOps.nil; try simp only [List.nil_append, List.cons_append, List.set_cons_zero, List.set_cons_succ, List.length_cons, List.length_nil, Nat.reduceAdd, AV.sh, AV.sh1, AV.sh0, AO.sh, List.map_cons, List.map_nil, Nat.zero_add, Nat.add_zero, setAll]) | (apply w_move; exact rfl; exact rfl) | (apply w_assign; exact rfl; exact rfl) | apply AWp.seq | apply AWp.region | ((apply AWp.condP; exact rfl) <;> intro h) | apply AWp.block | apply AWp.ret | apply AWp.exit | apply AWp.skip | (apply AWp.regionQ; kernel_rfl; kernel_rfl) | (apply w_len; exact rfl; exact rfl; first | exact .ints _ | exact .intss _ | exact .sli rfl | exact .sls rfl | exact .slr rfl | exact .orow rfl | exact .nil) | omega | ((first | apply w_lss | apply w_neq | apply w_add | apply w_idx | apply w_ld); iterate 3 exact rfl) | (apply inI_of <;> omega))
    all_goals try (exfalso; omega)
    exact ⟨k + 1, by omega, by omega, ⟨lee rfl (by (repeat (first | exact le_nil | refine le_eq rfl rfl ?_))), by (repeat (exact lo_nil)), rfl, rfl⟩⟩
  · repeat' (first | (apply AOps.nil; try simp only [List.nil_append, List.cons_append, List.set_cons_zero, List.set_cons_succ, List.length_cons, List.length_nil, Nat.reduceAdd, AV.sh, AV.sh1, AV.sh0, AO.sh, List.map_cons, List.map_nil, Nat.zero_add, Nat.add_zero, setAll]) | (apply w_move; exact rfl; exact rfl) | (apply w_assign; exact rfl; exact rfl) | apply AWp.seq | apply AWp.region | ((apply AWp.condP; exact rfl) <;> intro h) | apply AWp.block | apply AWp.ret | apply AWp.exit | apply AWp.skip | (apply AWp.regionQ; kernel_rfl; kernel_rfl) | (apply w_len; exact rfl; exact rfl; first | exact .ints _ | exact .intss _ | exact .sli rfl | exact .sls rfl | exact .slr rfl | exact .orow rfl | exact .nil) | omega | ((apply w_lss); iterate 3 exact rfl))
    all_goals exact .bool Try.results8 rfl rfl
set_option maxHeartbeats 8000000 in
theorem productOf_c (p q : List Int) (hp : 1 ≤ p.length) (hq : 1 ≤ q.length) (hl : p.length + q.length ≤ 2002) (hpB : ∀ i : Nat, -1000 ≤ geti p i ∧ geti p i ≤ 1000) (hqB : ∀ k : Nat, geti q k = 0 ∨ geti q k = 1 ∨ geti q k = -1)
    (hS : ∀ k c, -1000000 ≤ Cy.mul (trF (ser q) k) (ser p) c ∧ Cy.mul (trF (ser q) k) (ser p) c ≤ 1000000) : AFn Try.prog 22 [.ints p, .ints q] (IsIC 2 (pm p q) 0) := by
  have hz : List.replicate ((p.length : Int) + (q.length : Int) - 1).toNat (0 : Int) = pmO p q 0 := by rw [← pmO_zero]; congr 1; omega
  have hwr : ∀ k c, wr (Cy.mul (trF (ser q) k) (ser p) c) = Cy.mul (trF (ser q) k) (ser p) c := fun k c => wr_of (by have := hS k c; unfold inI; omega)
  (refine AFn.start Try.func22 Try.ntmps22 rfl (by kernel_rfl) fun hk => ?_; simp only [Env.start, enumF, List.length_cons, List.length_nil, Nat.reduceAdd, Nat.reduceSub, List.cons_append, List.nil_append])
  repeat' (first | (apply AOps.nil; try simp only [List.nil_append, List.cons_append, List.set_cons_zero, List.set_cons_succ, List.length_cons, List.length_nil, Nat.reduceAdd, AV.sh, AV.sh1, AV.sh0, AO.sh, List.map_cons, List.map_nil, Nat.zero_add, Nat.add_zero, setAll]) | ((apply AOps.splitP; exact rfl; exact rfl) <;> intro h) | (apply w_move; exact rfl; exact rfl) | (apply w_assign; exact rfl; exact rfl) | apply AWp.seq | apply AWp.region | ((apply AWp.condP; exact rfl) <;> intro h) | (apply AWp.condT; exact rfl) | apply AWp.block | apply AWp.ret | apply AWp.skip | (apply w_skip; exact rfl) | (apply w_pickT; exact rfl; exact rfl; exact rfl) | (apply w_pickF; exact rfl; exact rfl; exact rfl) | (apply w_len; exact rfl; exact rfl; first | exact .ints _ | exact .intss _ | exact .sli rfl | exact .sls rfl | exact .slr rfl | exact .orow rfl | exact .nil) | omega | ((first | apply w_gtr | apply w_eql | apply w_add | apply w_sub); iterate 3 exact rfl) | (apply w_mki; exact rfl; exact rfl; rotate_left 3; exact rfl; rotate_left 1) | (apply inI_of <;> omega))
  all_goals try (exfalso; omega)
  refine AWp.loop (ι := Nat) (fun k => ⟨75, [(0, .ints p), (6, .own 0), (36, .ints q), (37, .i q.length), (38, .i k)]⟩) (fun k => [.sli 2 (pmO p q k)]) (fun k => k ≤ q.length) (fun k => q.length - k) 0 (by omega) ⟨lee rfl (by (repeat (first | exact le_nil | refine le_eq rfl rfl ?_))), by (repeat (first | exact lo_nil | refine lo_eq (congrArg (AO.sli _) (hz)) ?_)), rfl, rfl⟩ ?_
  rintro k k0
  by_cases hk : k < q.length
  · have hqk := hqB k
    by_cases h0 : geti q (k : Nat) = 0
    · have hs := pmO_skip p q k h0
      repeat' (first | (apply AOps.nil; try simp only [List.nil_append, List.cons_append, List.set_cons_zero, List.set_cons_succ, List.length_cons, List.length_nil, Nat.reduceAdd, AV.sh, AV.sh1, AV.sh0, AO.sh, List.map_cons, List.map_nil, Nat.zero_add, Nat.add_zero, setAll]) | (apply w_move; exact rfl; exact rfl) | (apply w_assign; exact rfl; exact rfl) | apply AWp.seq | apply AWp.region | ((apply AWp.condP; exact rfl) <;> intro h) | apply AWp.block | apply AWp.ret | apply AWp.exit | apply AWp.skip | (apply w_len; exact rfl; exact rfl; first | exact .ints _ | exact .intss _ | exact .sli rfl | exact .sls rfl | exact .slr rfl | exact .orow rfl | exact .nil) | omega | ((first | apply w_lss | apply w_eql | apply w_add | apply w_idx | apply w_ld); iterate 3 exact rfl) | (apply inI_of <;> omega))
      exact ⟨k + 1, by omega, by omega, ⟨lee rfl (by (repeat (first | exact le_nil | refine le_eq rfl rfl ?_))), by (repeat (first | exact lo_nil | refine lo_eq (congrArg (AO.sli _) (hs.symm)) ?_)), rfl, rfl⟩⟩
    · repeat' (first | (apply AOps.nil; try simp only [List.nil_append, List.cons_append, List.set_cons_zero, List.set_cons_succ, List.length_cons, List.length_nil, Nat.reduceAdd, AV.sh, AV.sh1, AV.sh0, AO.sh, List.map_cons, List.map_nil, Nat.zero_add, Nat.add_zero, setAll]) | (apply w_move; exact rfl; exact rfl) | (apply w_assign; exact rfl; exact rfl) | apply AWp.seq | apply AWp.region | ((apply AWp.condP; exact rfl) <;> intro h) | apply AWp.block | apply AWp.ret | apply AWp.exit | apply AWp.skip | (apply w_len; exact rfl; exact rfl; first | exact .ints _ | exact .intss _ | exact .sli rfl | exact .sls rfl | exact .slr rfl | exact .orow rfl | exact .nil) | omega | ((first | apply w_lss | apply w_eql | apply w_idx | apply w_ld); iterate 3 exact rfl))
      refine AWp.loop (ι := Nat) (fun i => ⟨75, [(0, .ints p), (6, .own 0), (7, .i k), (8, .i (geti q (k : Nat))), (36, .ints q), (37, .i q.length), (38, .i k), (45, .ints p), (46, .i p.length), (47, .i i)]⟩) (fun i => [.sli 2 (pmI p q k i)]) (fun i => i ≤ p.length) (fun i => p.length - i) 0 (by omega) ⟨lee rfl (by (repeat (first | exact le_nil | refine le_eq rfl rfl ?_))), by (repeat (first | exact lo_nil | refine lo_eq (congrArg (AO.sli _) (pmI_none p q k)) ?_)), rfl, rfl⟩ ?_
      rintro i i0
      have hl : (pmI p q k i).length = p.length + q.length - 1 := tab_len _ _
      by_cases hi : i < p.length
      · have r1 : geti (pmI p q k i) ((((i : Int) + (k : Int)).toNat : Nat) : Int) = Cy.mul (trF (ser q) k) (ser p) (k + i) := by
          rw [show ((i : Int) + (k : Int)).toNat = k + i by omega]
          unfold pmI
          rw [tab_get _ (by omega), if_neg (by omega), hwr]
        have hpi := hpB i
        have b1 := hS k (k + i)
        have b2 := hS (k + 1) (k + i)
        have hab : -1000 ≤ geti p (i : Nat) * geti q (k : Nat) ∧ geti p (i : Nat) * geti q (k : Nat) ≤ 1000 := by rcases hqk with e | e | e <;> rw [e] <;> omega
        have r2 : Cy.mul (trF (ser q) k) (ser p) (k + i) + geti p (i : Nat) * geti q (k : Nat) = Cy.mul (trF (ser q) (k + 1)) (ser p) (k + i) := by
          have := pm_val p q k i
          rw [hwr, hwr, wr_of (show inI (geti p (i : Nat) * geti q (k : Nat)) by unfold inI; omega), wr_of (by unfold inI; omega)] at this
          exact this
        have hs : (pmI p q k i).set ((i : Int) + (k : Int)).toNat (geti (pmI p q k i) ((((i : Int) + (k : Int)).toNat : Nat) : Int) + geti p (i : Nat) * geti q (k : Nat)) = pmI p q k (i + 1) := by
          rw [r1, r2, ← hwr (k + 1) (k + i), show ((i : Int) + (k : Int)).toNat = k + i by omega]
          exact pmI_step p q k i
        have hpc := plusProduct_c (geti (pmI p q k i) ((((i : Int) + (k : Int)).toNat : Nat) : Int)) (geti p (i : Nat)) (geti q (k : Nat)) (by rw [r1]; exact b1) (by omega) (by omega) (by rw [r1, r2]; exact b2)
        repeat' (first | (apply AOps.nil; try simp only [List.nil_append, List.cons_append, List.set_cons_zero, List.set_cons_succ, List.length_cons, List.length_nil, Nat.reduceAdd, AV.sh, AV.sh1, AV.sh0, AO.sh, List.map_cons, List.map_nil, Nat.zero_add, Nat.add_zero, setAll]) | (apply w_move; exact rfl; exact rfl) | (apply w_assign; exact rfl; exact rfl) | apply AWp.seq | apply AWp.region | ((apply AWp.condP; exact rfl) <;> intro h) | (apply AWp.condF; exact rfl) | apply AWp.block | apply AWp.exit | apply AWp.skip | (apply w_call (hpc); exact rfl; exact rfl; focus ((repeat (first | exact im_nil | refine im_cons rfl (.val _) ?_)); done)) | omega | ((first | apply w_lss | apply w_add | apply w_idx | apply w_ld | apply w_extv); iterate 3 exact rfl) | ((apply w_not); iterate 2 exact rfl) | (apply w_idxo; exact rfl; exact rfl; (exact .sli rfl); exact rfl) | (apply w_ldo; iterate 4 exact rfl) | (apply w_sti; exact rfl; exact rfl; rotate_left 1; exact rfl; rotate_left 2) | (apply inI_of <;> omega))
        exact ⟨i + 1, by omega, by omega, ⟨lee rfl (by (repeat (first | exact le_nil | refine le_eq rfl rfl ?_))), by (repeat (first | exact lo_nil | refine lo_eq (congrArg (AO.sli _) (hs)) ?_)), rfl, rfl⟩⟩
      · have e : i = p.length := by omega
        subst e
        have hs := pmI_all p q k
        repeat' (first | (apply AOps.nil; try simp only [List.nil_append, List.cons_append, List.set_cons_zero, List.set_cons_succ, List.length_cons, List.length_nil, Nat.reduceAdd, AV.sh, AV.sh1, AV.sh0, AO.sh, List.map_cons, List.map_nil, Nat.zero_add, Nat.add_zero, setAll]) | (apply w_move; exact rfl; exact rfl) | apply AWp.seq | apply AWp.region | ((apply AWp.condP; exact rfl) <;> intro h) | apply AWp.block | apply AWp.exit | apply AWp.skip | omega | ((first | apply w_lss | apply w_add); iterate 3 exact rfl) | (apply inI_of <;> omega))
        exact ⟨k + 1, by omega, by omega, ⟨lee rfl (by (repeat (first | exact le_nil | refine le_eq rfl rfl ?_))), by (repeat (first | exact lo_nil | refine lo_eq (congrArg (AO.sli _) (hs)) ?_)), rfl, rfl⟩⟩
  · have e : k = q.length := by omega
    subst e
    rw [pmO_all]
    repeat' (first | (apply AOps.nil; try simp only [List.nil_append, List.cons_append, List.set_cons_zero, List.set_cons_succ, List.length_cons, List.length_nil, Nat.reduceAdd, AV.sh, AV.sh1, AV.sh0, AO.sh, List.map_cons, List.map_nil, Nat.zero_add, Nat.add_zero, setAll]) | (apply w_move; exact rfl; exact rfl) | (apply w_assign; exact rfl; exact rfl) | apply AWp.seq | apply AWp.region | ((apply AWp.condP; exact rfl) <;> intro h) | apply AWp.block | apply AWp.ret | apply AWp.exit | apply AWp.skip | omega | ((apply w_lss); iterate 3 exact rfl))
    exact ⟨_, _, _, .a2 Try.results22 rfl rfl, .tup2 (.sli rfl), rfl, rfl⟩
end Go.Proofs.Ytkcbihmpjkkccaa
