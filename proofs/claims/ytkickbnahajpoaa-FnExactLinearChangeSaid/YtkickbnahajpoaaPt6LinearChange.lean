/-
  Parts of the proof, one behind the other: contracts of functions and plain laws. No condition.
-/
import Derived.Test.YtkickbnahajpoaaPt5LinearChange
/-
  Powers of linear forms, as maps. No condition.
-/
namespace Go.Proofs.Ytkickbnahajpoaa
open Go Go.RowKit
attribute [local irreducible] AWp AOps ResIs Ret1 QOp LOp COp AFnV AFn Imms LeE LeO
set_option maxHeartbeats 1000000
set_option linter.unusedSimpArgs false
set_option linter.unusedVariables false

/-- The n-th power of c x + d y. -/
def pwF (c d : Int) : Nat → Int → Int → Int
  | 0 => fun u v => if u = 0 ∧ v = 0 then 1 else 0
  | n + 1 => tF c d (pwF c d n)
structure PwI (c d : Int) (n : Nat) (M : List (Int × Int × Int)) : Prop where
  keys : KeysN M
  co : CoOk M
  bd : Bd n M
  eq : ∀ u v, lookM M u v = pwF c d n u v
theorem pw_zero (c d : Int) : PwI c d 0 [(0, 0, 1)] where
  keys := List.pairwise_singleton _ _
  co t ht := by simp at ht; subst ht; exact ⟨by decide, by decide⟩
  bd t ht := by simp at ht; subst ht; exact ⟨⟨by decide, by decide⟩, by decide, by decide⟩
  eq u v := by rw [lookM_cons, lookM_nil]; rfl
theorem pw_succ {c d : Int} {n k : Nat} {M M' F : List (Int × Int × Int)} (h : PwI c d n M) (hF : ∀ L, KeysN L → ∀ a b, convP L F a b % 55441 = tF c d (lookM L) a b) (hM : MuI ((n : Int) + 1) M' (convP M F) k) : PwI c d (n + 1) M' where
  keys := hM.keys
  co := hM.co
  bd t ht := by have := hM.bd t ht; omega
  eq u v := by
    rw [hM.eq, hF M h.keys, pwF]
    have : lookM M = pwF c d n := by funext a b; exact h.eq a b
    rw [this]
theorem conv_form' {L : List (Int × Int × Int)} (hL : KeysN L) (c d a b : Int) : convP L [(0, 1, d), (1, 0, c)] a b % 55441 = tF c d (lookM L) a b := by
  rw [conv_at hL]
  simp only [sumE, Int.sub_zero, Int.add_zero]
  unfold tF
  omega

set_option maxHeartbeats 8000000 in
theorem powersOf_c (c d : Int) (hc : 0 ≤ c ∧ c ≤ 55440) (hd : 0 ≤ d ∧ d ≤ 55440) (m : Nat) (hm : m ≤ 16) :
    AFn Try.prog 42 [.i c, .i d, .i m] (fun r os => ∃ Ls : List Trs, r = .own 0 ∧ os = [.ob (slmOb 50 Ls)] ∧ Ls.length = m + 1 ∧ ∀ n, n < Ls.length → PwI c d n (Ls.getD n [])) := by
  (refine AFn.start Try.func42 Try.ntmps42 rfl (by kernel_rfl) fun hk => ?_; simp only [Env.start, enumF, List.length_cons, List.length_nil, Nat.reduceAdd, Nat.reduceSub, List.cons_append, List.nil_append])
  repeat' (first
  | (apply AOps.nil; try simp only [List.nil_append, List.cons_append, List.set_cons_zero, List.set_cons_succ, List.length_cons, List.length_nil, Nat.reduceAdd, AV.sh, AV.sh1, AV.sh0, AO.sh, List.map_cons, List.map_nil, Nat.zero_add, Nat.add_zero, setAll])
  | ((apply AOps.splitP; exact rfl; exact rfl) <;> intro h)
  | ((apply AOps.splitN; exact rfl; exact rfl) <;> intro h)
  | (apply w_move; exact rfl; exact rfl)
  | (apply w_assign; exact rfl; exact rfl)
  | apply AWp.seq
  | apply AWp.region
  | ((apply AWp.condP; exact rfl) <;> intro h)
  | ((apply AWp.condN; exact rfl) <;> intro h)
  | (apply AWp.condT; exact rfl)
  | (apply AWp.condF; exact rfl)
  | ((apply AWp.condB; exact rfl) <;> intro h)
  | apply AWp.block
  | apply AWp.ret
  | apply AWp.exit
  | apply AWp.skip
  | (apply if_pos'; exact rfl)
  | (apply if_neg'; decide)
  | (apply w_skip; exact rfl)
  | (apply w_pickT; exact rfl; exact rfl; exact rfl)
  | (apply w_pickF; exact rfl; exact rfl; exact rfl)
  | (apply w_len; exact rfl; exact rfl; first | exact .ints _ | exact .intss _ | exact .sli rfl | exact .sls rfl | exact .slr rfl | exact .orow rfl | exact .nil)
  | ((first | apply w_lss | apply w_leq | apply w_gtr | apply w_geq | apply w_eql | apply w_neq | apply w_add | apply w_sub | apply w_mul | apply w_idx | apply w_ld | apply w_fld | apply w_fa | apply w_extv); iterate 3 exact rfl)
  | ((first | apply w_eqlb | apply w_neqb | apply w_idxs | apply w_lds | apply w_ext); iterate 3 exact rfl)
  | (apply w_rem; exact rfl; exact rfl; exact rfl; (focus (omega; done)); (focus (omega; done)))
  | (apply w_remT; exact rfl; exact rfl; exact rfl)
  | ((first | apply w_not | apply w_conv | apply w_build0 | apply w_boxa); iterate 2 exact rfl)
  | (apply w_idxo; exact rfl; exact rfl; (first | exact .sli rfl | exact .sls rfl | exact .slr rfl); exact rfl)
  | ((first | apply w_idxr | apply w_ldr); iterate 4 exact rfl)
  | (apply w_ldo; iterate 4 exact rfl)
  | (apply w_ldls; iterate 4 exact rfl)
  | (apply w_ldrp; iterate 4 exact rfl)
  | (apply w_ldb; iterate 5 exact rfl)
  | (apply w_ldst; iterate 5 exact rfl)
  | (apply w_build1; exact rfl; exact rfl; (first | exact one_val rfl rfl | exact one_ints | exact one_intss | exact one_own rfl True.intro))
  | (apply w_build2; exact rfl; exact rfl; exact rfl; (first | exact one_val rfl rfl | exact one_ints | exact one_intss | exact one_own rfl True.intro); (first | exact one_val rfl rfl | exact one_ints | exact one_intss | exact one_own rfl True.intro))
  | (apply w_alst; iterate 2 exact rfl)
  | (apply w_alone; iterate 3 exact rfl)
  | (apply w_stst; iterate 5 exact rfl)
  | (apply w_stbv; iterate 6 exact rfl)
  | (apply w_stbi; iterate 4 exact rfl)
  | (apply w_stbo; exact rfl; exact rfl; exact rfl; exact rfl; exact rfl; exact True.intro)
  | ((apply AOps.splitB; exact rfl; exact rfl) <;> intro h)
  | apply AllOf.nil
  | (apply AllOf.cons; exact rfl)
  | (apply AAny.take; exact rfl; exact rfl; kernel_rfl; kernel_rfl)
  | (apply AAny.all; exact rfl)
  | (apply AAny.done; exact rfl)
  | (apply inI_of <;> omega)
  | omega
  | (simp <;> omega))
  refine AWp.regionG [] (by kernel_rfl) (envC := ⟨35, [(2, .i m), (6, .val (.slice none 0 0)), (7, .own 0)]⟩) (osC := [.ob (orOb (mapOb [(1, 0, c), (0, 1, d)]) (mapOb [(0, 1, d), (1, 0, c)]))]) rfl rfl ?_ ?_
  · repeat' (first
  | (apply AOps.nil; try simp only [List.nil_append, List.cons_append, List.set_cons_zero, List.set_cons_succ, List.length_cons, List.length_nil, Nat.reduceAdd, AV.sh, AV.sh1, AV.sh0, AO.sh, List.map_cons, List.map_nil, Nat.zero_add, Nat.add_zero, setAll])
  | ((apply AOps.splitP; exact rfl; exact rfl) <;> intro h)
  | ((apply AOps.splitN; exact rfl; exact rfl) <;> intro h)
  | (apply w_move; exact rfl; exact rfl)
  | (apply w_assign; exact rfl; exact rfl)
  | apply AWp.seq
  | apply AWp.region
  | ((apply AWp.condP; exact rfl) <;> intro h)
  | ((apply AWp.condN; exact rfl) <;> intro h)
  | (apply AWp.condT; exact rfl)
  | (apply AWp.condF; exact rfl)
  | ((apply AWp.condB; exact rfl) <;> intro h)
  | apply AWp.block
  | apply AWp.ret
  | apply AWp.exit
  | apply AWp.skip
  | (apply AWp.regionQ; kernel_rfl; kernel_rfl)
  | (apply if_pos'; exact rfl)
  | (apply if_neg'; decide)
  | (apply w_skip; exact rfl)
  | (apply w_pickT; exact rfl; exact rfl; exact rfl)
  | (apply w_pickF; exact rfl; exact rfl; exact rfl)
  | (apply w_len; exact rfl; exact rfl; first | exact .ints _ | exact .intss _ | exact .sli rfl | exact .sls rfl | exact .slr rfl | exact .orow rfl | exact .nil)
  | (apply w_makemap; iterate 1 exact rfl)
  | ((first | apply w_mapset | apply w_insert | apply w_stbi); iterate 4 exact rfl)
  | (apply w_maplook; iterate 5 exact rfl)
  | (apply w_idxarr; exact rfl; exact rfl; exact rfl; decide; decide; exact rfl)
  | apply AllOfG.nil
  | (apply AllOfG.consQ; exact rfl; exact rfl)
  | (apply AllOfG.consS; exact rfl; exact rfl)
  | (apply AAnyG.takeW; exact rfl; exact rfl; kernel_rfl; kernel_rfl)
  | (apply AAnyG.takeL; exact rfl; exact rfl; kernel_rfl)
  | (apply AAnyG.all; exact rfl)
  | (apply AAnyG.done; exact rfl)
  | ((first | apply w_lss | apply w_leq | apply w_gtr | apply w_geq | apply w_eql | apply w_neq | apply w_add | apply w_sub | apply w_mul | apply w_idx | apply w_ld | apply w_fld | apply w_fa | apply w_extv); iterate 3 exact rfl)
  | ((first | apply w_eqlb | apply w_neqb | apply w_idxs | apply w_lds | apply w_ext); iterate 3 exact rfl)
  | (apply w_rem; exact rfl; exact rfl; exact rfl; (focus (omega; done)); (focus (omega; done)))
  | (apply w_remT; exact rfl; exact rfl; exact rfl)
  | ((first | apply w_not | apply w_conv | apply w_build0 | apply w_boxa); iterate 2 exact rfl)
  | (apply w_idxo; exact rfl; exact rfl; (first | exact .sli rfl | exact .sls rfl | exact .slr rfl); exact rfl)
  | ((first | apply w_idxr | apply w_ldr); iterate 4 exact rfl)
  | (apply w_ldo; iterate 4 exact rfl)
  | (apply w_ldls; iterate 4 exact rfl)
  | (apply w_ldrp; iterate 4 exact rfl)
  | (apply w_ldb; iterate 5 exact rfl)
  | (apply w_ldst; iterate 5 exact rfl)
  | (apply w_build1; exact rfl; exact rfl; (first | exact one_val rfl rfl | exact one_ints | exact one_intss | exact one_own rfl True.intro))
  | (apply w_build2; exact rfl; exact rfl; exact rfl; (first | exact one_val rfl rfl | exact one_ints | exact one_intss | exact one_own rfl True.intro); (first | exact one_val rfl rfl | exact one_ints | exact one_intss | exact one_own rfl True.intro))
  | (apply w_alst; iterate 2 exact rfl)
  | (apply w_alone; iterate 3 exact rfl)
  | (apply w_stst; iterate 5 exact rfl)
  | (apply w_stbv; iterate 6 exact rfl)
  | (apply w_stbo; exact rfl; exact rfl; exact rfl; exact rfl; exact rfl; exact True.intro)
  | ((apply AOps.splitB; exact rfl; exact rfl) <;> intro h)
  | apply AllOf.nil
  | (apply AllOf.cons; exact rfl)
  | (apply AAny.take; exact rfl; exact rfl; kernel_rfl; kernel_rfl)
  | (apply AAny.all; exact rfl)
  | (apply AAny.done; exact rfl)
  | (apply inI_of <;> omega)
  | omega
  | (simp <;> omega))
    all_goals (first | (apply Or.inl; refine ⟨lee rfl ?_, ?_, rfl, rfl⟩; (focus ((repeat (first | exact le_nil | refine le_eq rfl rfl ?_ | (refine le_eq rfl (congrArg AV.i ?_) ?_; (focus (omega; done))))); done)); (focus ((repeat (first | exact lo_nil | refine lo_dead ?_ | refine lo_eq rfl ?_ | refine lo_ob or_l ?_ | refine lo_ob or_r ?_)); done))))
  refine AWp.cases (k := 0) rfl ?_ ?_
  · have hF : ∀ L, KeysN L → ∀ a b, convP L [(1, 0, c), (0, 1, d)] a b % 55441 = tF c d (lookM L) a b := fun L hL a b => conv_form (L := L) hL c d a b
    dsimp only [List.set_cons_zero]
    have hCF : CoOk ([(1, 0, c), (0, 1, d)] : List (Int × Int × Int)) := fun t ht => by
      simp only [List.mem_cons, List.not_mem_nil, or_false] at ht
      rcases ht with rfl | rfl
      · first | exact hc | exact hd
      · first | exact hd | exact hc
    have hBF : Bd 1 ([(1, 0, c), (0, 1, d)] : List (Int × Int × Int)) := fun t ht => by
      simp only [List.mem_cons, List.not_mem_nil, or_false] at ht
      rcases ht with rfl | rfl <;> (dsimp only; omega)
    generalize ([(1, 0, c), (0, 1, d)] : List (Int × Int × Int)) = F at hF hCF hBF ⊢
    repeat' (first
  | (apply AOps.nil; try simp only [List.nil_append, List.cons_append, List.set_cons_zero, List.set_cons_succ, List.length_cons, List.length_nil, Nat.reduceAdd, AV.sh, AV.sh1, AV.sh0, AO.sh, List.map_cons, List.map_nil, Nat.zero_add, Nat.add_zero, setAll])
  | ((apply AOps.splitP; exact rfl; exact rfl) <;> intro h)
  | ((apply AOps.splitN; exact rfl; exact rfl) <;> intro h)
  | (apply w_move; exact rfl; exact rfl)
  | (apply w_assign; exact rfl; exact rfl)
  | apply AWp.seq
  | apply AWp.region
  | ((apply AWp.condP; exact rfl) <;> intro h)
  | ((apply AWp.condN; exact rfl) <;> intro h)
  | (apply AWp.condT; exact rfl)
  | (apply AWp.condF; exact rfl)
  | ((apply AWp.condB; exact rfl) <;> intro h)
  | apply AWp.block
  | apply AWp.ret
  | apply AWp.exit
  | apply AWp.skip
  | (apply if_pos'; exact rfl)
  | (apply if_neg'; decide)
  | (apply w_skip; exact rfl)
  | (apply w_pickT; exact rfl; exact rfl; exact rfl)
  | (apply w_pickF; exact rfl; exact rfl; exact rfl)
  | (apply w_len; exact rfl; exact rfl; first | exact .ints _ | exact .intss _ | exact .sli rfl | exact .sls rfl | exact .slr rfl | exact .orow rfl | exact .nil)
  | (apply w_makemap; iterate 1 exact rfl)
  | ((first | apply w_mapset | apply w_insert | apply w_stbi); iterate 4 exact rfl)
  | (apply w_maplook; iterate 5 exact rfl)
  | (apply w_idxarr; exact rfl; exact rfl; exact rfl; decide; decide; exact rfl)
  | (apply w_bsm1s; exact rfl; exact rfl; exact rfl; simp only [Env.mp, List.map_cons, List.map_nil, List.set_cons_zero, List.set_cons_succ, AV.kill, AV.kill1, AO.kill, AV.rin, AV.rin1, AV.noRow, AV.noRow1, AO.via, reduceIte, Nat.reduceEqDiff, Nat.reduceLT, Env.up, Nat.zero_ne_one, Nat.one_ne_zero, Nat.reduceAdd, List.cons_append, List.nil_append])
  | ((first | apply w_lss | apply w_leq | apply w_gtr | apply w_geq | apply w_eql | apply w_neq | apply w_add | apply w_sub | apply w_mul | apply w_idx | apply w_ld | apply w_fld | apply w_fa | apply w_extv); iterate 3 exact rfl)
  | ((first | apply w_eqlb | apply w_neqb | apply w_idxs | apply w_lds | apply w_ext); iterate 3 exact rfl)
  | (apply w_rem; exact rfl; exact rfl; exact rfl; (focus (omega; done)); (focus (omega; done)))
  | (apply w_remT; exact rfl; exact rfl; exact rfl)
  | ((first | apply w_not | apply w_conv | apply w_build0 | apply w_boxa); iterate 2 exact rfl)
  | (apply w_idxo; exact rfl; exact rfl; (first | exact .sli rfl | exact .sls rfl | exact .slr rfl); exact rfl)
  | ((first | apply w_idxr | apply w_ldr); iterate 4 exact rfl)
  | (apply w_ldo; iterate 4 exact rfl)
  | (apply w_ldls; iterate 4 exact rfl)
  | (apply w_ldrp; iterate 4 exact rfl)
  | (apply w_ldb; iterate 5 exact rfl)
  | (apply w_ldst; iterate 5 exact rfl)
  | (apply w_build1; exact rfl; exact rfl; (first | exact one_val rfl rfl | exact one_ints | exact one_intss | exact one_own rfl True.intro))
  | (apply w_build2; exact rfl; exact rfl; exact rfl; (first | exact one_val rfl rfl | exact one_ints | exact one_intss | exact one_own rfl True.intro); (first | exact one_val rfl rfl | exact one_ints | exact one_intss | exact one_own rfl True.intro))
  | (apply w_alst; iterate 2 exact rfl)
  | (apply w_alone; iterate 3 exact rfl)
  | (apply w_stst; iterate 5 exact rfl)
  | (apply w_stbv; iterate 6 exact rfl)
  | (apply w_stbo; exact rfl; exact rfl; exact rfl; exact rfl; exact rfl; exact True.intro)
  | ((apply AOps.splitB; exact rfl; exact rfl) <;> intro h)
  | apply AllOf.nil
  | (apply AllOf.cons; exact rfl)
  | (apply AAny.take; exact rfl; exact rfl; kernel_rfl; kernel_rfl)
  | (apply AAny.all; exact rfl)
  | (apply AAny.done; exact rfl)
  | (apply inI_of <;> omega)
  | omega
  | (simp <;> omega))
    refine AWp.loop (ι := Nat × List Trs) (fun x => ⟨35, [(6, .val (.slice none 0 0)), (7, .own 0), (8, .own 2), (19, .i m), (20, .i x.1)]⟩) (fun x => [.ob (mapOb F), .dead, .ob (slmOb 50 x.2)]) (fun x => x.1 ≤ m ∧ x.2.length = x.1 + 1 ∧ ∀ n, n < x.2.length → PwI c d n (x.2.getD n [])) (fun x => m - x.1) (0, [[(0, 0, 1)]])
      ⟨Nat.zero_le _, rfl, fun n hn => by have : n = 0 := by simp at hn; exact hn
                                          subst this; exact pw_zero c d⟩ ⟨lee rfl (by (repeat (first | exact le_nil | refine le_eq rfl rfl ?_ | refine le_eq rfl (congrArg AV.i (by omega)) ?_))), by (repeat (first | exact lo_nil | refine lo_dead ?_ | refine lo_eq rfl ?_)), rfl, rfl⟩ ?_
    rintro ⟨n, Ls⟩ ⟨h0, h1, h2⟩
    dsimp only at h0 h1 h2
    by_cases hn : n < m
    · have hL := h2 n (by omega)
      have en : ((Ls.length : Int) - 1).toNat = n := by omega
      have ht := times_c (n : Int) 1 (by omega) (by omega) (by omega) (Ls.getD ((Ls.length : Int) - 1).toNat []) F (by rw [en]; exact hL.co) hCF (by rw [en]; exact hL.bd) hBF
      repeat' (first
  | (apply AOps.nil; try simp only [List.nil_append, List.cons_append, List.set_cons_zero, List.set_cons_succ, List.length_cons, List.length_nil, Nat.reduceAdd, AV.sh, AV.sh1, AV.sh0, AO.sh, List.map_cons, List.map_nil, Nat.zero_add, Nat.add_zero, setAll])
  | ((apply AOps.splitP; exact rfl; exact rfl) <;> intro h)
  | ((apply AOps.splitN; exact rfl; exact rfl) <;> intro h)
  | (apply w_move; exact rfl; exact rfl)
  | (apply w_assign; exact rfl; exact rfl)
  | apply AWp.seq
  | apply AWp.region
  | ((apply AWp.condP; exact rfl) <;> intro h)
  | ((apply AWp.condN; exact rfl) <;> intro h)
  | (apply AWp.condT; exact rfl)
  | (apply AWp.condF; exact rfl)
  | ((apply AWp.condB; exact rfl) <;> intro h)
  | apply AWp.block
  | apply AWp.ret
  | apply AWp.exit
  | apply AWp.skip
  | (apply if_pos'; exact rfl)
  | (apply if_neg'; decide)
  | (apply w_skip; exact rfl)
  | (apply w_pickT; exact rfl; exact rfl; exact rfl)
  | (apply w_pickF; exact rfl; exact rfl; exact rfl)
  | (apply w_len; exact rfl; exact rfl; first | exact .ints _ | exact .intss _ | exact .sli rfl | exact .sls rfl | exact .slr rfl | exact .orow rfl | exact .nil)
  | (apply w_makemap; iterate 1 exact rfl)
  | ((first | apply w_mapset | apply w_idxslm | apply w_ldslm | apply w_stbi); iterate 4 exact rfl)
  | (apply w_maplook; iterate 5 exact rfl)
  | (apply w_idxarr; exact rfl; exact rfl; exact rfl; decide; decide; exact rfl)
  | ((first | apply w_lenslm | apply w_bsm1 | apply w_lss | apply w_leq | apply w_gtr | apply w_geq | apply w_eql | apply w_neq | apply w_add | apply w_sub | apply w_mul | apply w_idx | apply w_ld | apply w_fld | apply w_fa | apply w_extv); iterate 3 exact rfl)
  | (apply w_appm; exact rfl; exact rfl; exact rfl; exact rfl; exact rfl; exact rfl; decide; rotate_left 1; simp only [Env.mp, List.map_cons, List.map_nil, List.set_cons_zero, List.set_cons_succ, AV.kill, AV.kill1, AO.kill, AV.rin, AV.rin1, AV.noRow, AV.noRow1, AO.via, reduceIte, Nat.reduceEqDiff, Nat.reduceLT, Env.up, Nat.zero_ne_one, Nat.one_ne_zero, Nat.reduceAdd, List.cons_append, List.nil_append]; rotate_left 1)
  | (apply w_callm (ht); (focus ((repeat (first | exact im_nil | refine im_cons rfl (.ro _) ?_ | refine im_cons rfl (.sem [_] (reads_map rfl)) ?_ | refine im_cons rfl (.sem [_] (reads_slm rfl)) ?_ | refine im_cons rfl (.val _) ?_ | refine im_cons rfl (.ints _) ?_ | refine im_cons rfl (.intss _) ?_ | refine im_cons rfl (.sls rfl) ?_ | refine im_cons rfl (.orow rfl) ?_ | refine im_cons rfl (.nil) ?_ | refine im_cons rfl (.nils) ?_ | refine im_cons rfl (im_agg1 (.intss _)) ?_ | refine im_cons rfl (im_agg1 (.sls rfl)) ?_ | refine im_cons rfl (im_agg1 (.nils)) ?_)); done)); rintro r os0 ⟨M2, rfl, rfl, hM2⟩; try simp only [List.nil_append, List.cons_append, List.set_cons_zero, List.set_cons_succ, List.length_cons, List.length_nil, Nat.reduceAdd, AV.sh, AV.sh1, AV.sh0, AO.sh, List.map_cons, List.map_nil, Nat.zero_add, Nat.add_zero, setAll])
  | omega
  | ((first | apply w_eqlb | apply w_neqb | apply w_idxs | apply w_lds | apply w_ext); iterate 3 exact rfl)
  | (apply w_rem; exact rfl; exact rfl; exact rfl; (focus (omega; done)); (focus (omega; done)))
  | (apply w_remT; exact rfl; exact rfl; exact rfl)
  | ((first | apply w_not | apply w_conv | apply w_build0 | apply w_boxa); iterate 2 exact rfl)
  | (apply w_idxo; exact rfl; exact rfl; (first | exact .sli rfl | exact .sls rfl | exact .slr rfl); exact rfl)
  | ((first | apply w_idxr | apply w_ldr); iterate 4 exact rfl)
  | (apply w_ldo; iterate 4 exact rfl)
  | (apply w_ldls; iterate 4 exact rfl)
  | (apply w_ldrp; iterate 4 exact rfl)
  | (apply w_ldb; iterate 5 exact rfl)
  | (apply w_ldst; iterate 5 exact rfl)
  | (apply w_build1; exact rfl; exact rfl; (first | exact one_val rfl rfl | exact one_ints | exact one_intss | exact one_own rfl True.intro))
  | (apply w_build2; exact rfl; exact rfl; exact rfl; (first | exact one_val rfl rfl | exact one_ints | exact one_intss | exact one_own rfl True.intro); (first | exact one_val rfl rfl | exact one_ints | exact one_intss | exact one_own rfl True.intro))
  | (apply w_alst; iterate 2 exact rfl)
  | (apply w_alone; iterate 3 exact rfl)
  | (apply w_stst; iterate 5 exact rfl)
  | (apply w_stbv; iterate 6 exact rfl)
  | (apply w_stbo; exact rfl; exact rfl; exact rfl; exact rfl; exact rfl; exact True.intro)
  | ((apply AOps.splitB; exact rfl; exact rfl) <;> intro h)
  | apply AllOf.nil
  | (apply AllOf.cons; exact rfl)
  | (apply AAny.take; exact rfl; exact rfl; kernel_rfl; kernel_rfl)
  | (apply AAny.all; exact rfl)
  | (apply AAny.done; exact rfl)
  | (apply inI_of <;> omega)
  | omega
  | (simp <;> omega))
      rw [en] at hM2
      refine ⟨(n + 1, Ls ++ [M2]), ⟨hn, by simp [h1], fun k hk2 => ?_⟩, by dsimp only; omega, ⟨lee rfl (by (repeat (first | exact le_nil | refine le_eq rfl rfl ?_ | refine le_eq rfl (congrArg AV.i (by omega)) ?_))), by (repeat (first | exact lo_nil | refine lo_dead ?_ | refine lo_eq rfl ?_)), rfl, rfl⟩⟩
      simp only [List.length_append, List.length_cons, List.length_nil] at hk2
      by_cases e : k = n + 1
      · subst e
        have e2 : (Ls ++ [M2]).getD (n + 1) [] = M2 := by rw [← h1]; simp [List.getD_eq_getElem?_getD]
        rw [e2]
        exact pw_succ hL hF hM2
      · have e2 : (Ls ++ [M2]).getD k [] = Ls.getD k [] := by
          simp only [List.getD_eq_getElem?_getD]
          rw [List.getElem?_append_left (by omega)]
        rw [e2]
        exact h2 k (by omega)
    · repeat' (first
  | (apply AOps.nil; try simp only [List.nil_append, List.cons_append, List.set_cons_zero, List.set_cons_succ, List.length_cons, List.length_nil, Nat.reduceAdd, AV.sh, AV.sh1, AV.sh0, AO.sh, List.map_cons, List.map_nil, Nat.zero_add, Nat.add_zero, setAll])
  | ((apply AOps.splitP; exact rfl; exact rfl) <;> intro h)
  | ((apply AOps.splitN; exact rfl; exact rfl) <;> intro h)
  | (apply w_move; exact rfl; exact rfl)
  | (apply w_assign; exact rfl; exact rfl)
  | apply AWp.seq
  | apply AWp.region
  | ((apply AWp.condP; exact rfl) <;> intro h)
  | ((apply AWp.condN; exact rfl) <;> intro h)
  | (apply AWp.condT; exact rfl)
  | (apply AWp.condF; exact rfl)
  | ((apply AWp.condB; exact rfl) <;> intro h)
  | apply AWp.block
  | apply AWp.ret
  | apply AWp.exit
  | apply AWp.skip
  | (apply if_pos'; exact rfl)
  | (apply if_neg'; decide)
  | (apply w_skip; exact rfl)
  | (apply w_pickT; exact rfl; exact rfl; exact rfl)
  | (apply w_pickF; exact rfl; exact rfl; exact rfl)
  | (apply w_len; exact rfl; exact rfl; first | exact .ints _ | exact .intss _ | exact .sli rfl | exact .sls rfl | exact .slr rfl | exact .orow rfl | exact .nil)
  | (apply w_makemap; iterate 1 exact rfl)
  | ((first | apply w_mapset | apply w_idxslm | apply w_ldslm | apply w_stbi); iterate 4 exact rfl)
  | (apply w_maplook; iterate 5 exact rfl)
  | (apply w_idxarr; exact rfl; exact rfl; exact rfl; decide; decide; exact rfl)
  | ((first | apply w_lenslm | apply w_bsm1 | apply w_lss | apply w_leq | apply w_gtr | apply w_geq | apply w_eql | apply w_neq | apply w_add | apply w_sub | apply w_mul | apply w_idx | apply w_ld | apply w_fld | apply w_fa | apply w_extv); iterate 3 exact rfl)
  | (apply w_appm; exact rfl; exact rfl; exact rfl; exact rfl; exact rfl; exact rfl; decide; rotate_left 1; simp only [Env.mp, List.map_cons, List.map_nil, List.set_cons_zero, List.set_cons_succ, AV.kill, AV.kill1, AO.kill, AV.rin, AV.rin1, AV.noRow, AV.noRow1, AO.via, reduceIte, Nat.reduceEqDiff, Nat.reduceLT, Env.up, Nat.zero_ne_one, Nat.one_ne_zero, Nat.reduceAdd, List.cons_append, List.nil_append]; rotate_left 1)
  | omega
  | ((first | apply w_eqlb | apply w_neqb | apply w_idxs | apply w_lds | apply w_ext); iterate 3 exact rfl)
  | (apply w_rem; exact rfl; exact rfl; exact rfl; (focus (omega; done)); (focus (omega; done)))
  | (apply w_remT; exact rfl; exact rfl; exact rfl)
  | ((first | apply w_not | apply w_conv | apply w_build0 | apply w_boxa); iterate 2 exact rfl)
  | (apply w_idxo; exact rfl; exact rfl; (first | exact .sli rfl | exact .sls rfl | exact .slr rfl); exact rfl)
  | ((first | apply w_idxr | apply w_ldr); iterate 4 exact rfl)
  | (apply w_ldo; iterate 4 exact rfl)
  | (apply w_ldls; iterate 4 exact rfl)
  | (apply w_ldrp; iterate 4 exact rfl)
  | (apply w_ldb; iterate 5 exact rfl)
  | (apply w_ldst; iterate 5 exact rfl)
  | (apply w_build1; exact rfl; exact rfl; (first | exact one_val rfl rfl | exact one_ints | exact one_intss | exact one_own rfl True.intro))
  | (apply w_build2; exact rfl; exact rfl; exact rfl; (first | exact one_val rfl rfl | exact one_ints | exact one_intss | exact one_own rfl True.intro); (first | exact one_val rfl rfl | exact one_ints | exact one_intss | exact one_own rfl True.intro))
  | (apply w_alst; iterate 2 exact rfl)
  | (apply w_alone; iterate 3 exact rfl)
  | (apply w_stst; iterate 5 exact rfl)
  | (apply w_stbv; iterate 6 exact rfl)
  | (apply w_stbo; exact rfl; exact rfl; exact rfl; exact rfl; exact rfl; exact True.intro)
  | ((apply AOps.splitB; exact rfl; exact rfl) <;> intro h)
  | apply AllOf.nil
  | (apply AllOf.cons; exact rfl)
  | (apply AAny.take; exact rfl; exact rfl; kernel_rfl; kernel_rfl)
  | (apply AAny.all; exact rfl)
  | (apply AAny.done; exact rfl)
  | (apply inI_of <;> omega)
  | omega
  | (simp <;> omega))
      have e : n = m := by omega
      subst e
      exact ⟨_, _, _, .v1 Try.results42 rfl, .ob rfl, Ls, rfl, rfl, h1, h2⟩
  · have hF : ∀ L, KeysN L → ∀ a b, convP L [(0, 1, d), (1, 0, c)] a b % 55441 = tF c d (lookM L) a b := fun L hL a b => conv_form' (L := L) hL c d a b
    dsimp only [List.set_cons_zero]
    have hCF : CoOk ([(0, 1, d), (1, 0, c)] : List (Int × Int × Int)) := fun t ht => by
      simp only [List.mem_cons, List.not_mem_nil, or_false] at ht
      rcases ht with rfl | rfl
      · first | exact hc | exact hd
      · first | exact hd | exact hc
    have hBF : Bd 1 ([(0, 1, d), (1, 0, c)] : List (Int × Int × Int)) := fun t ht => by
      simp only [List.mem_cons, List.not_mem_nil, or_false] at ht
      rcases ht with rfl | rfl <;> (dsimp only; omega)
    generalize ([(0, 1, d), (1, 0, c)] : List (Int × Int × Int)) = F at hF hCF hBF ⊢
    repeat' (first
  | (apply AOps.nil; try simp only [List.nil_append, List.cons_append, List.set_cons_zero, List.set_cons_succ, List.length_cons, List.length_nil, Nat.reduceAdd, AV.sh, AV.sh1, AV.sh0, AO.sh, List.map_cons, List.map_nil, Nat.zero_add, Nat.add_zero, setAll])
  | ((apply AOps.splitP; exact rfl; exact rfl) <;> intro h)
  | ((apply AOps.splitN; exact rfl; exact rfl) <;> intro h)
  | (apply w_move; exact rfl; exact rfl)
  | (apply w_assign; exact rfl; exact rfl)
  | apply AWp.seq
  | apply AWp.region
  | ((apply AWp.condP; exact rfl) <;> intro h)
  | ((apply AWp.condN; exact rfl) <;> intro h)
  | (apply AWp.condT; exact rfl)
  | (apply AWp.condF; exact rfl)
  | ((apply AWp.condB; exact rfl) <;> intro h)
  | apply AWp.block
  | apply AWp.ret
  | apply AWp.exit
  | apply AWp.skip
  | (apply if_pos'; exact rfl)
  | (apply if_neg'; decide)
  | (apply w_skip; exact rfl)
  | (apply w_pickT; exact rfl; exact rfl; exact rfl)
  | (apply w_pickF; exact rfl; exact rfl; exact rfl)
  | (apply w_len; exact rfl; exact rfl; first | exact .ints _ | exact .intss _ | exact .sli rfl | exact .sls rfl | exact .slr rfl | exact .orow rfl | exact .nil)
  | (apply w_makemap; iterate 1 exact rfl)
  | ((first | apply w_mapset | apply w_insert | apply w_stbi); iterate 4 exact rfl)
  | (apply w_maplook; iterate 5 exact rfl)
  | (apply w_idxarr; exact rfl; exact rfl; exact rfl; decide; decide; exact rfl)
  | (apply w_bsm1s; exact rfl; exact rfl; exact rfl; simp only [Env.mp, List.map_cons, List.map_nil, List.set_cons_zero, List.set_cons_succ, AV.kill, AV.kill1, AO.kill, AV.rin, AV.rin1, AV.noRow, AV.noRow1, AO.via, reduceIte, Nat.reduceEqDiff, Nat.reduceLT, Env.up, Nat.zero_ne_one, Nat.one_ne_zero, Nat.reduceAdd, List.cons_append, List.nil_append])
  | ((first | apply w_lss | apply w_leq | apply w_gtr | apply w_geq | apply w_eql | apply w_neq | apply w_add | apply w_sub | apply w_mul | apply w_idx | apply w_ld | apply w_fld | apply w_fa | apply w_extv); iterate 3 exact rfl)
  | ((first | apply w_eqlb | apply w_neqb | apply w_idxs | apply w_lds | apply w_ext); iterate 3 exact rfl)
  | (apply w_rem; exact rfl; exact rfl; exact rfl; (focus (omega; done)); (focus (omega; done)))
  | (apply w_remT; exact rfl; exact rfl; exact rfl)
  | ((first | apply w_not | apply w_conv | apply w_build0 | apply w_boxa); iterate 2 exact rfl)
  | (apply w_idxo; exact rfl; exact rfl; (first | exact .sli rfl | exact .sls rfl | exact .slr rfl); exact rfl)
  | ((first | apply w_idxr | apply w_ldr); iterate 4 exact rfl)
  | (apply w_ldo; iterate 4 exact rfl)
  | (apply w_ldls; iterate 4 exact rfl)
  | (apply w_ldrp; iterate 4 exact rfl)
  | (apply w_ldb; iterate 5 exact rfl)
  | (apply w_ldst; iterate 5 exact rfl)
  | (apply w_build1; exact rfl; exact rfl; (first | exact one_val rfl rfl | exact one_ints | exact one_intss | exact one_own rfl True.intro))
  | (apply w_build2; exact rfl; exact rfl; exact rfl; (first | exact one_val rfl rfl | exact one_ints | exact one_intss | exact one_own rfl True.intro); (first | exact one_val rfl rfl | exact one_ints | exact one_intss | exact one_own rfl True.intro))
  | (apply w_alst; iterate 2 exact rfl)
  | (apply w_alone; iterate 3 exact rfl)
  | (apply w_stst; iterate 5 exact rfl)
  | (apply w_stbv; iterate 6 exact rfl)
  | (apply w_stbo; exact rfl; exact rfl; exact rfl; exact rfl; exact rfl; exact True.intro)
  | ((apply AOps.splitB; exact rfl; exact rfl) <;> intro h)
  | apply AllOf.nil
  | (apply AllOf.cons; exact rfl)
  | (apply AAny.take; exact rfl; exact rfl; kernel_rfl; kernel_rfl)
  | (apply AAny.all; exact rfl)
  | (apply AAny.done; exact rfl)
  | (apply inI_of <;> omega)
  | omega
  | (simp <;> omega))
    refine AWp.loop (ι := Nat × List Trs) (fun x => ⟨35, [(6, .val (.slice none 0 0)), (7, .own 0), (8, .own 2), (19, .i m), (20, .i x.1)]⟩) (fun x => [.ob (mapOb F), .dead, .ob (slmOb 50 x.2)]) (fun x => x.1 ≤ m ∧ x.2.length = x.1 + 1 ∧ ∀ n, n < x.2.length → PwI c d n (x.2.getD n [])) (fun x => m - x.1) (0, [[(0, 0, 1)]])
      ⟨Nat.zero_le _, rfl, fun n hn => by have : n = 0 := by simp at hn; exact hn
                                          subst this; exact pw_zero c d⟩ ⟨lee rfl (by (repeat (first | exact le_nil | refine le_eq rfl rfl ?_ | refine le_eq rfl (congrArg AV.i (by omega)) ?_))), by (repeat (first | exact lo_nil | refine lo_dead ?_ | refine lo_eq rfl ?_)), rfl, rfl⟩ ?_
    rintro ⟨n, Ls⟩ ⟨h0, h1, h2⟩
    dsimp only at h0 h1 h2
    by_cases hn : n < m
    · have hL := h2 n (by omega)
      have en : ((Ls.length : Int) - 1).toNat = n := by omega
      have ht := times_c (n : Int) 1 (by omega) (by omega) (by omega) (Ls.getD ((Ls.length : Int) - 1).toNat []) F (by rw [en]; exact hL.co) hCF (by rw [en]; exact hL.bd) hBF
      repeat' (first
  | (apply AOps.nil; try simp only [List.nil_append, List.cons_append, List.set_cons_zero, List.set_cons_succ, List.length_cons, List.length_nil, Nat.reduceAdd, AV.sh, AV.sh1, AV.sh0, AO.sh, List.map_cons, List.map_nil, Nat.zero_add, Nat.add_zero, setAll])
  | ((apply AOps.splitP; exact rfl; exact rfl) <;> intro h)
  | ((apply AOps.splitN; exact rfl; exact rfl) <;> intro h)
  | (apply w_move; exact rfl; exact rfl)
  | (apply w_assign; exact rfl; exact rfl)
  | apply AWp.seq
  | apply AWp.region
  | ((apply AWp.condP; exact rfl) <;> intro h)
  | ((apply AWp.condN; exact rfl) <;> intro h)
  | (apply AWp.condT; exact rfl)
  | (apply AWp.condF; exact rfl)
  | ((apply AWp.condB; exact rfl) <;> intro h)
  | apply AWp.block
  | apply AWp.ret
  | apply AWp.exit
  | apply AWp.skip
  | (apply if_pos'; exact rfl)
  | (apply if_neg'; decide)
  | (apply w_skip; exact rfl)
  | (apply w_pickT; exact rfl; exact rfl; exact rfl)
  | (apply w_pickF; exact rfl; exact rfl; exact rfl)
  | (apply w_len; exact rfl; exact rfl; first | exact .ints _ | exact .intss _ | exact .sli rfl | exact .sls rfl | exact .slr rfl | exact .orow rfl | exact .nil)
  | (apply w_makemap; iterate 1 exact rfl)
  | ((first | apply w_mapset | apply w_idxslm | apply w_ldslm | apply w_stbi); iterate 4 exact rfl)
  | (apply w_maplook; iterate 5 exact rfl)
  | (apply w_idxarr; exact rfl; exact rfl; exact rfl; decide; decide; exact rfl)
  | ((first | apply w_lenslm | apply w_bsm1 | apply w_lss | apply w_leq | apply w_gtr | apply w_geq | apply w_eql | apply w_neq | apply w_add | apply w_sub | apply w_mul | apply w_idx | apply w_ld | apply w_fld | apply w_fa | apply w_extv); iterate 3 exact rfl)
  | (apply w_appm; exact rfl; exact rfl; exact rfl; exact rfl; exact rfl; exact rfl; decide; rotate_left 1; simp only [Env.mp, List.map_cons, List.map_nil, List.set_cons_zero, List.set_cons_succ, AV.kill, AV.kill1, AO.kill, AV.rin, AV.rin1, AV.noRow, AV.noRow1, AO.via, reduceIte, Nat.reduceEqDiff, Nat.reduceLT, Env.up, Nat.zero_ne_one, Nat.one_ne_zero, Nat.reduceAdd, List.cons_append, List.nil_append]; rotate_left 1)
  | (apply w_callm (ht); (focus ((repeat (first | exact im_nil | refine im_cons rfl (.ro _) ?_ | refine im_cons rfl (.sem [_] (reads_map rfl)) ?_ | refine im_cons rfl (.sem [_] (reads_slm rfl)) ?_ | refine im_cons rfl (.val _) ?_ | refine im_cons rfl (.ints _) ?_ | refine im_cons rfl (.intss _) ?_ | refine im_cons rfl (.sls rfl) ?_ | refine im_cons rfl (.orow rfl) ?_ | refine im_cons rfl (.nil) ?_ | refine im_cons rfl (.nils) ?_ | refine im_cons rfl (im_agg1 (.intss _)) ?_ | refine im_cons rfl (im_agg1 (.sls rfl)) ?_ | refine im_cons rfl (im_agg1 (.nils)) ?_)); done)); rintro r os0 ⟨M2, rfl, rfl, hM2⟩; try simp only [List.nil_append, List.cons_append, List.set_cons_zero, List.set_cons_succ, List.length_cons, List.length_nil, Nat.reduceAdd, AV.sh, AV.sh1, AV.sh0, AO.sh, List.map_cons, List.map_nil, Nat.zero_add, Nat.add_zero, setAll])
  | omega
  | ((first | apply w_eqlb | apply w_neqb | apply w_idxs | apply w_lds | apply w_ext); iterate 3 exact rfl)
  | (apply w_rem; exact rfl; exact rfl; exact rfl; (focus (omega; done)); (focus (omega; done)))
  | (apply w_remT; exact rfl; exact rfl; exact rfl)
  | ((first | apply w_not | apply w_conv | apply w_build0 | apply w_boxa); iterate 2 exact rfl)
  | (apply w_idxo; exact rfl; exact rfl; (first | exact .sli rfl | exact .sls rfl | exact .slr rfl); exact rfl)
  | ((first | apply w_idxr | apply w_ldr); iterate 4 exact rfl)
  | (apply w_ldo; iterate 4 exact rfl)
  | (apply w_ldls; iterate 4 exact rfl)
  | (apply w_ldrp; iterate 4 exact rfl)
  | (apply w_ldb; iterate 5 exact rfl)
  | (apply w_ldst; iterate 5 exact rfl)
  | (apply w_build1; exact rfl; exact rfl; (first | exact one_val rfl rfl | exact one_ints | exact one_intss | exact one_own rfl True.intro))
  | (apply w_build2; exact rfl; exact rfl; exact rfl; (first | exact one_val rfl rfl | exact one_ints | exact one_intss | exact one_own rfl True.intro); (first | exact one_val rfl rfl | exact one_ints | exact one_intss | exact one_own rfl True.intro))
  | (apply w_alst; iterate 2 exact rfl)
  | (apply w_alone; iterate 3 exact rfl)
  | (apply w_stst; iterate 5 exact rfl)
  | (apply w_stbv; iterate 6 exact rfl)
  | (apply w_stbo; exact rfl; exact rfl; exact rfl; exact rfl; exact rfl; exact True.intro)
  | ((apply AOps.splitB; exact rfl; exact rfl) <;> intro h)
  | apply AllOf.nil
  | (apply AllOf.cons; exact rfl)
  | (apply AAny.take; exact rfl; exact rfl; kernel_rfl; kernel_rfl)
  | (apply AAny.all; exact rfl)
  | (apply AAny.done; exact rfl)
  | (apply inI_of <;> omega)
  | omega
  | (simp <;> omega))
      rw [en] at hM2
      refine ⟨(n + 1, Ls ++ [M2]), ⟨hn, by simp [h1], fun k hk2 => ?_⟩, by dsimp only; omega, ⟨lee rfl (by (repeat (first | exact le_nil | refine le_eq rfl rfl ?_ | refine le_eq rfl (congrArg AV.i (by omega)) ?_))), by (repeat (first | exact lo_nil | refine lo_dead ?_ | refine lo_eq rfl ?_)), rfl, rfl⟩⟩
      simp only [List.length_append, List.length_cons, List.length_nil] at hk2
      by_cases e : k = n + 1
      · subst e
        have e2 : (Ls ++ [M2]).getD (n + 1) [] = M2 := by rw [← h1]; simp [List.getD_eq_getElem?_getD]
        rw [e2]
        exact pw_succ hL hF hM2
      · have e2 : (Ls ++ [M2]).getD k [] = Ls.getD k [] := by
          simp only [List.getD_eq_getElem?_getD]
          rw [List.getElem?_append_left (by omega)]
        rw [e2]
        exact h2 k (by omega)
    · repeat' (first
  | (apply AOps.nil; try simp only [List.nil_append, List.cons_append, List.set_cons_zero, List.set_cons_succ, List.length_cons, List.length_nil, Nat.reduceAdd, AV.sh, AV.sh1, AV.sh0, AO.sh, List.map_cons, List.map_nil, Nat.zero_add, Nat.add_zero, setAll])
  | ((apply AOps.splitP; exact rfl; exact rfl) <;> intro h)
  | ((apply AOps.splitN; exact rfl; exact rfl) <;> intro h)
  | (apply w_move; exact rfl; exact rfl)
  | (apply w_assign; exact rfl; exact rfl)
  | apply AWp.seq
  | apply AWp.region
  | ((apply AWp.condP; exact rfl) <;> intro h)
  | ((apply AWp.condN; exact rfl) <;> intro h)
  | (apply AWp.condT; exact rfl)
  | (apply AWp.condF; exact rfl)
  | ((apply AWp.condB; exact rfl) <;> intro h)
  | apply AWp.block
  | apply AWp.ret
  | apply AWp.exit
  | apply AWp.skip
  | (apply if_pos'; exact rfl)
  | (apply if_neg'; decide)
  | (apply w_skip; exact rfl)
  | (apply w_pickT; exact rfl; exact rfl; exact rfl)
  | (apply w_pickF; exact rfl; exact rfl; exact rfl)
  | (apply w_len; exact rfl; exact rfl; first | exact .ints _ | exact .intss _ | exact .sli rfl | exact .sls rfl | exact .slr rfl | exact .orow rfl | exact .nil)
  | (apply w_makemap; iterate 1 exact rfl)
  | ((first | apply w_mapset | apply w_idxslm | apply w_ldslm | apply w_stbi); iterate 4 exact rfl)
  | (apply w_maplook; iterate 5 exact rfl)
  | (apply w_idxarr; exact rfl; exact rfl; exact rfl; decide; decide; exact rfl)
  | ((first | apply w_lenslm | apply w_bsm1 | apply w_lss | apply w_leq | apply w_gtr | apply w_geq | apply w_eql | apply w_neq | apply w_add | apply w_sub | apply w_mul | apply w_idx | apply w_ld | apply w_fld | apply w_fa | apply w_extv); iterate 3 exact rfl)
  | (apply w_appm; exact rfl; exact rfl; exact rfl; exact rfl; exact rfl; exact rfl; decide; rotate_left 1; simp only [Env.mp, List.map_cons, List.map_nil, List.set_cons_zero, List.set_cons_succ, AV.kill, AV.kill1, AO.kill, AV.rin, AV.rin1, AV.noRow, AV.noRow1, AO.via, reduceIte, Nat.reduceEqDiff, Nat.reduceLT, Env.up, Nat.zero_ne_one, Nat.one_ne_zero, Nat.reduceAdd, List.cons_append, List.nil_append]; rotate_left 1)
  | omega
  | ((first | apply w_eqlb | apply w_neqb | apply w_idxs | apply w_lds | apply w_ext); iterate 3 exact rfl)
  | (apply w_rem; exact rfl; exact rfl; exact rfl; (focus (omega; done)); (focus (omega; done)))
  | (apply w_remT; exact rfl; exact rfl; exact rfl)
  | ((first | apply w_not | apply w_conv | apply w_build0 | apply w_boxa); iterate 2 exact rfl)
  | (apply w_idxo; exact rfl; exact rfl; (first | exact .sli rfl | exact .sls rfl | exact .slr rfl); exact rfl)
  | ((first | apply w_idxr | apply w_ldr); iterate 4 exact rfl)
  | (apply w_ldo; iterate 4 exact rfl)
  | (apply w_ldls; iterate 4 exact rfl)
  | (apply w_ldrp; iterate 4 exact rfl)
  | (apply w_ldb; iterate 5 exact rfl)
  | (apply w_ldst; iterate 5 exact rfl)
  | (apply w_build1; exact rfl; exact rfl; (first | exact one_val rfl rfl | exact one_ints | exact one_intss | exact one_own rfl True.intro))
  | (apply w_build2; exact rfl; exact rfl; exact rfl; (first | exact one_val rfl rfl | exact one_ints | exact one_intss | exact one_own rfl True.intro); (first | exact one_val rfl rfl | exact one_ints | exact one_intss | exact one_own rfl True.intro))
  | (apply w_alst; iterate 2 exact rfl)
  | (apply w_alone; iterate 3 exact rfl)
  | (apply w_stst; iterate 5 exact rfl)
  | (apply w_stbv; iterate 6 exact rfl)
  | (apply w_stbo; exact rfl; exact rfl; exact rfl; exact rfl; exact rfl; exact True.intro)
  | ((apply AOps.splitB; exact rfl; exact rfl) <;> intro h)
  | apply AllOf.nil
  | (apply AllOf.cons; exact rfl)
  | (apply AAny.take; exact rfl; exact rfl; kernel_rfl; kernel_rfl)
  | (apply AAny.all; exact rfl)
  | (apply AAny.done; exact rfl)
  | (apply inI_of <;> omega)
  | omega
  | (simp <;> omega))
      have e : n = m := by omega
      subst e
      exact ⟨_, _, _, .v1 Try.results42 rfl, .ob rfl, Ls, rfl, rfl, h1, h2⟩
end Go.Proofs.Ytkickbnahajpoaa
/-
  Products of polynomials: in the reference; both functions. No condition.
-/
namespace Go.Proofs.Ytkickbnahajpoaa
open Go Go.RowKit
attribute [local irreducible] AWp AOps ResIs Ret1 QOp LOp COp AFnV AFn Imms LeE LeO
set_option maxHeartbeats 1000000
set_option linter.unusedSimpArgs false
set_option linter.unusedVariables false

/-- A term times the first terms of g, put in. -/
def tmR (ts : List (List Int)) (x : List Int) (g : List (List Int)) : Nat → List (List Int)
  | 0 => ts
  | k + 1 => putT (tmR ts x g k) (geti x 0 + geti (gets g (k : Nat)) 0) (geti x 1 + geti (gets g (k : Nat)) 1) (geti x 2 * geti (gets g (k : Nat)) 2 % 55441)
/-- The first terms of f times g. -/
def tmL (f g : List (List Int)) : Nat → List (List Int)
  | 0 => []
  | i + 1 => tmR (tmL f g i) (gets f (i : Nat)) g g.length
/-- Terms of moderate size. -/
def Te (f : List (List Int)) : Prop := ∀ t ∈ f, t.length = 3 ∧ (0 ≤ geti t 0 ∧ geti t 0 ≤ 1000) ∧ (0 ≤ geti t 1 ∧ geti t 1 ≤ 1000) ∧ (0 ≤ geti t 2 ∧ geti t 2 ≤ 55440)
theorem te_at {f : List (List Int)} (h : Te f) {i : Nat} (hi : i < f.length) : (gets f (i : Nat)).length = 3 ∧ (0 ≤ geti (gets f (i : Nat)) 0 ∧ geti (gets f (i : Nat)) 0 ≤ 1000) ∧ (0 ≤ geti (gets f (i : Nat)) 1 ∧ geti (gets f (i : Nat)) 1 ≤ 1000) ∧ (0 ≤ geti (gets f (i : Nat)) 2 ∧ geti (gets f (i : Nat)) 2 ≤ 55440) := by
  have e : gets f (i : Nat) = f[i] := by simp [gets, List.getD_eq_getElem?_getD, hi]
  rw [e]; exact h _ (List.getElem_mem hi)
theorem getD_toT (f : List (List Int)) (i : Nat) : (f.map toT).getD i (0, 0, 0) = toT (gets f (i : Nat)) := by
  simp only [gets, Int.toNat_natCast, List.getD_eq_getElem?_getD, List.getElem?_map]
  cases f[i]? with
  | none => rfl
  | some t => rfl
structure TmI (ts : List (List Int)) (S : Int → Int → Int) (n : Nat) : Prop where
  srt : Srt ts
  nz : TNz ts
  bd : ∀ t ∈ ts, geti t 0 ≤ 2000 ∧ geti t 1 ≤ 2000
  len : ts.length ≤ n
  eq : ∀ a b, cof ts a b = S a b % 55441
theorem tm_nil : TmI [] (fun _ _ => 0) 0 := ⟨List.Pairwise.nil, fun _ h => (by cases h), fun _ h => (by cases h), Nat.le_refl _, fun _ _ => rfl⟩
theorem tm_put {ts : List (List Int)} {S : Int → Int → Int} {n : Nat} (h : TmI ts S n) {i j c : Int} (hi : 0 ≤ i ∧ i ≤ 2000) (hj : 0 ≤ j ∧ j ≤ 2000) (hc : 0 ≤ c ∧ c ≤ 55440) {S' : Int → Int → Int} (hS : ∀ a b, S' a b = S a b + (if i = a ∧ j = b then c else 0)) : TmI (putT ts i j c) S' (n + 1) where
  srt := srt_put _ h.srt fun t ht => (h.nz t ht).1.1
  nz := nz_put h.nz (by omega) (by omega) hc
  bd := fun x hx => by
    rcases mem_put ts (fun t ht => (h.nz t ht).1.1) x hx with h1 | ⟨h1, h2, _⟩
    · exact h.bd x h1
    · omega
  len := by have := put_len ts i j c; have := h.len; omega
  eq := fun a b => by
    rw [cof_put hc a b _ h.srt (fun t ht => (h.nz t ht).1), hS]
    by_cases e : a = i ∧ b = j
    · rw [if_pos e, if_pos ⟨e.1.symm, e.2.symm⟩, h.eq, e.1, e.2]; omega
    · rw [if_neg e, if_neg (fun e' => e ⟨e'.1.symm, e'.2.symm⟩), h.eq]; simp

theorem tmR_inv {f g : List (List Int)} (hf : Te f) (hg : Te g) {i : Nat} (hi : i < f.length) {ts : List (List Int)} {S : Int → Int → Int} {n : Nat} (h : TmI ts S n) :
    ∀ k, k ≤ g.length → TmI (tmR ts (gets f (i : Nat)) g k) (fun a b => S a b + sumL (tmP (f.map toT) (g.map toT) a b i) (List.range k)) (n + k)
  | 0, _ => by simpa [sumL, tmR] using h
  | k + 1, hk => by
    have ih := tmR_inv hf hg hi h k (by omega)
    have h1 := te_at hf hi
    have h2 := te_at hg (show k < g.length by omega)
    refine tm_put ih (by omega) (by omega) (by omega) fun a b => ?_
    rw [sumL_succ]
    simp only [tmP, getD_toT, toT]
    omega
theorem tmL_inv {f g : List (List Int)} (hf : Te f) (hg : Te g) : ∀ i, i ≤ f.length → TmI (tmL f g i) (fun a b => sumL (rowP (f.map toT) (g.map toT) a b) (List.range i)) (i * g.length)
  | 0, _ => by simpa [sumL, tmL] using tm_nil
  | i + 1, hi => by
    have ih := tmL_inv hf hg i (by omega)
    have h := tmR_inv hf hg (show i < f.length by omega) ih g.length (Nat.le_refl _)
    rw [show (i + 1) * g.length = i * g.length + g.length by rw [Nat.add_mul]; simp]
    have e : (fun a b => sumL (rowP (f.map toT) (g.map toT) a b) (List.range (i + 1))) = fun a b => sumL (rowP (f.map toT) (g.map toT) a b) (List.range i) + sumL (tmP (f.map toT) (g.map toT) a b i) (List.range g.length) := by
      funext a b
      rw [sumL_succ, rowP, List.length_map]
    rw [e]
    exact h
theorem tmL_all {f g : List (List Int)} (hf : Te f) (hg : Te g) : TmI (tmL f g f.length) (convP (f.map toT) (g.map toT)) (f.length * g.length) := by
  have h := tmL_inv hf hg f.length (Nat.le_refl _)
  have e : (fun a b => sumL (rowP (f.map toT) (g.map toT) a b) (List.range f.length)) = convP (f.map toT) (g.map toT) := by
    funext a b
    rw [convP, List.length_map]
  rw [e] at h
  exact h

set_option maxHeartbeats 8000000 in
theorem l17Times_c (f g : List (List Int)) (hf : Te f) (hg : Te g) (hlf : f.length ≤ 1000) (hlg : g.length ≤ 1000) : AFn Try.prog 38 [.agg [.intss f], .agg [.intss g]] (IsPol (tmL f g f.length)) := by
  have hmul : ∀ i k : Nat, i < f.length → k ≤ g.length → i * g.length + k ≤ 1000000 := fun i k hi hk => by
    have h1 : i * g.length + g.length ≤ f.length * g.length := by rw [← Nat.succ_mul]; exact Nat.mul_le_mul_right _ hi
    have h2 : f.length * g.length ≤ 1000 * 1000 := Nat.mul_le_mul hlf hlg
    omega
  (refine AFn.start Try.func38 Try.ntmps38 rfl (by kernel_rfl) fun hk => ?_; simp only [Env.start, enumF, List.length_cons, List.length_nil, Nat.reduceAdd, Nat.reduceSub, List.cons_append, List.nil_append])
  repeat' (first
  | (apply AOps.nil; try simp only [List.nil_append, List.cons_append, List.set_cons_zero, List.set_cons_succ, List.length_cons, List.length_nil, Nat.reduceAdd, AV.sh, AV.sh1, AV.sh0, AO.sh, List.map_cons, List.map_nil, Nat.zero_add, Nat.add_zero, setAll])
  | ((apply AOps.splitP; exact rfl; exact rfl) <;> intro h)
  | ((apply AOps.splitN; exact rfl; exact rfl) <;> intro h)
  | (apply w_move; exact rfl; exact rfl)
  | (apply w_assign; exact rfl; exact rfl)
  | apply AWp.seq
  | apply AWp.region
  | ((apply AWp.condP; exact rfl) <;> intro h)
  | ((apply AWp.condN; exact rfl) <;> intro h)
  | (apply AWp.condT; exact rfl)
  | (apply AWp.condF; exact rfl)
  | ((apply AWp.condB; exact rfl) <;> intro h)
  | apply AWp.block
  | apply AWp.ret
  | apply AWp.exit
  | apply AWp.skip
  | (apply AWp.regionQ; kernel_rfl; kernel_rfl)
  | (apply if_pos'; exact rfl)
  | (apply if_neg'; decide)
  | (apply w_skip; exact rfl)
  | (apply w_pickT; exact rfl; exact rfl; exact rfl)
  | (apply w_pickF; exact rfl; exact rfl; exact rfl)
  | (apply w_len; exact rfl; exact rfl; first | exact .ints _ | exact .intss _ | exact .sli rfl | exact .sls rfl | exact .slr rfl | exact .orow rfl | exact .nil)
  | ((first | apply w_bsr0 | apply w_bs0); iterate 1 exact rfl)
  | ((first | apply w_bsr1 | apply w_lss | apply w_leq | apply w_gtr | apply w_geq | apply w_eql | apply w_neq | apply w_add | apply w_sub | apply w_mul | apply w_idx | apply w_ld | apply w_fld | apply w_fa | apply w_extv | apply w_min | apply w_max | apply w_slhi | apply w_sllo | apply w_bs2); iterate 3 exact rfl)
  | (apply w_appr; exact rfl; exact rfl; exact rfl; exact rfl; exact rfl; exact rfl; exact rfl; rotate_left 1; simp only [Env.mp, List.map_cons, List.map_nil, List.set_cons_zero, List.set_cons_succ, AV.kill, AV.kill1, AO.kill, AV.rin, AV.rin1, AV.noRow, AV.noRow1, AO.via, reduceIte, Nat.reduceEqDiff, Nat.reduceLT, Env.up, Nat.zero_ne_one, Nat.one_ne_zero, Nat.reduceAdd, List.cons_append, List.nil_append]; rotate_left 1)
  | ((first | apply w_eqlb | apply w_neqb | apply w_idxs | apply w_lds | apply w_ext); iterate 3 exact rfl)
  | (apply w_rem; exact rfl; exact rfl; exact rfl; (focus (omega; done)); (focus (omega; done)))
  | (apply w_quo; exact rfl; exact rfl; exact rfl; (focus (omega; done)); (focus (omega; done)))
  | (apply w_remT; exact rfl; exact rfl; exact rfl)
  | (apply w_quoT; exact rfl; exact rfl; exact rfl)
  | ((first | apply w_not | apply w_neg | apply w_conv | apply w_build0 | apply w_bs1 | apply w_boxa); iterate 2 exact rfl)
  | (apply w_idxo; exact rfl; exact rfl; (first | exact .sli rfl | exact .sls rfl | exact .slr rfl); exact rfl)
  | ((first | apply w_idxr | apply w_ldr); iterate 4 exact rfl)
  | (apply w_ldo; iterate 4 exact rfl)
  | (apply w_ldls; iterate 4 exact rfl)
  | (apply w_ldrp; iterate 4 exact rfl)
  | (apply w_ldb; iterate 5 exact rfl)
  | (apply w_ldst; iterate 5 exact rfl)
  | ((first | apply w_sllh | apply w_stbi); iterate 4 exact rfl)
  | ((first | apply w_oslo | apply w_oshi | apply w_stbii); iterate 4 exact rfl)
  | (apply w_build1; exact rfl; exact rfl; (first | exact one_val rfl rfl | exact one_ints | exact one_intss | exact one_own rfl True.intro))
  | (apply w_build2; exact rfl; exact rfl; exact rfl; (first | exact one_val rfl rfl | exact one_ints | exact one_intss | exact one_own rfl True.intro); (first | exact one_val rfl rfl | exact one_ints | exact one_intss | exact one_own rfl True.intro))
  | (apply w_appn; exact rfl; exact rfl; (first | exact .ints _ | exact .sli rfl | exact .orow rfl | exact .nil | exact .osub rfl (by simp; omega)); exact rfl)
  | (apply w_app; exact rfl; exact rfl; exact rfl; exact rfl; (first | exact .ints _ | exact .sli rfl | exact .orow rfl | exact .nil | exact .osub rfl (by simp; omega)); rotate_left 1; simp only [Env.mp, List.map_cons, List.map_nil, List.set_cons_zero, List.set_cons_succ, AV.kill, AV.kill1, AO.kill, AV.noRow, AV.noRow1, AO.via, reduceIte, Nat.reduceEqDiff, Nat.reduceLT, Env.up, Nat.zero_ne_one, Nat.one_ne_zero, Nat.reduceAdd, List.cons_append, List.nil_append]; rotate_left 1)
  | (apply w_alst; iterate 2 exact rfl)
  | (apply w_alone; iterate 3 exact rfl)
  | (apply w_sti; exact rfl; exact rfl; rotate_left 1; exact rfl; rotate_left 2)
  | (apply w_stst; iterate 5 exact rfl)
  | (apply w_stbv; iterate 6 exact rfl)
  | (apply w_stbo; exact rfl; exact rfl; exact rfl; exact rfl; exact rfl; exact True.intro)
  | ((apply AOps.splitB; exact rfl; exact rfl) <;> intro h)
  | apply AllOf.nil
  | (apply AllOf.cons; exact rfl)
  | (apply AAny.take; exact rfl; exact rfl; kernel_rfl; kernel_rfl)
  | (apply AAny.all; exact rfl)
  | (apply AAny.done; exact rfl)
  | (apply inI_of <;> omega)
  | omega
  | (simp <;> omega))
  refine AWp.loop (ι := Nat) (fun i => ⟨60, [(2, .optr 0 0), (3, .optr 1 0), (4, .optr 2 0), (5, .own 3), (6, .i i)]⟩) (fun i => [.bx 26 [.intss f], .bx 26 [.intss g], .bx 26 [.val (.slice none 0 0)], .sls 52 2 (tmL f g i)]) (fun i => i ≤ f.length) (fun i => f.length - i) 0 (by omega) ⟨lee rfl (by (repeat (first | exact le_nil | refine le_eq rfl rfl ?_ | refine le_eq rfl (congrArg AV.i (by omega)) ?_))), by (repeat (first | exact lo_nil | refine lo_dead ?_ | refine lo_eq rfl ?_)), rfl, rfl⟩ ?_
  rintro i i0
  have inv := tmL_inv hf hg i i0
  by_cases hi : i < f.length
  · have h1 := te_at hf hi
    repeat' (first
  | (apply AOps.nil; try simp only [List.nil_append, List.cons_append, List.set_cons_zero, List.set_cons_succ, List.length_cons, List.length_nil, Nat.reduceAdd, AV.sh, AV.sh1, AV.sh0, AO.sh, List.map_cons, List.map_nil, Nat.zero_add, Nat.add_zero, setAll])
  | ((apply AOps.splitP; exact rfl; exact rfl) <;> intro h)
  | ((apply AOps.splitN; exact rfl; exact rfl) <;> intro h)
  | (apply w_move; exact rfl; exact rfl)
  | (apply w_assign; exact rfl; exact rfl)
  | apply AWp.seq
  | apply AWp.region
  | ((apply AWp.condP; exact rfl) <;> intro h)
  | ((apply AWp.condN; exact rfl) <;> intro h)
  | (apply AWp.condT; exact rfl)
  | (apply AWp.condF; exact rfl)
  | ((apply AWp.condB; exact rfl) <;> intro h)
  | apply AWp.block
  | apply AWp.ret
  | apply AWp.exit
  | apply AWp.skip
  | (apply AWp.regionQ; kernel_rfl; kernel_rfl)
  | (apply if_pos'; exact rfl)
  | (apply if_neg'; decide)
  | (apply w_skip; exact rfl)
  | (apply w_pickT; exact rfl; exact rfl; exact rfl)
  | (apply w_pickF; exact rfl; exact rfl; exact rfl)
  | (apply w_len; exact rfl; exact rfl; first | exact .ints _ | exact .intss _ | exact .sli rfl | exact .sls rfl | exact .slr rfl | exact .orow rfl | exact .nil)
  | omega
  | ((first | apply w_lss | apply w_leq | apply w_gtr | apply w_geq | apply w_eql | apply w_neq | apply w_add | apply w_sub | apply w_mul | apply w_idx | apply w_ld | apply w_fld | apply w_fa | apply w_extv | apply w_min | apply w_max | apply w_slhi | apply w_sllo | apply w_bs2); iterate 3 exact rfl)
  | ((first | apply w_eqlb | apply w_neqb | apply w_idxs | apply w_lds | apply w_ext); iterate 3 exact rfl)
  | (apply w_rem; exact rfl; exact rfl; exact rfl; (focus (omega; done)); (focus (omega; done)))
  | (apply w_quo; exact rfl; exact rfl; exact rfl; (focus (omega; done)); (focus (omega; done)))
  | (apply w_remT; exact rfl; exact rfl; exact rfl)
  | (apply w_quoT; exact rfl; exact rfl; exact rfl)
  | ((first | apply w_not | apply w_neg | apply w_conv | apply w_build0 | apply w_bs1 | apply w_boxa); iterate 2 exact rfl)
  | (apply w_idxo; exact rfl; exact rfl; (first | exact .sli rfl | exact .sls rfl | exact .slr rfl); exact rfl)
  | ((first | apply w_idxr | apply w_ldr); iterate 4 exact rfl)
  | (apply w_ldo; iterate 4 exact rfl)
  | (apply w_ldls; iterate 4 exact rfl)
  | (apply w_ldrp; iterate 4 exact rfl)
  | (apply w_ldb; iterate 5 exact rfl)
  | (apply w_ldst; iterate 5 exact rfl)
  | ((first | apply w_sllh | apply w_stbi); iterate 4 exact rfl)
  | ((first | apply w_oslo | apply w_oshi | apply w_stbii); iterate 4 exact rfl)
  | (apply w_build1; exact rfl; exact rfl; (first | exact one_val rfl rfl | exact one_ints | exact one_intss | exact one_own rfl True.intro))
  | (apply w_build2; exact rfl; exact rfl; exact rfl; (first | exact one_val rfl rfl | exact one_ints | exact one_intss | exact one_own rfl True.intro); (first | exact one_val rfl rfl | exact one_ints | exact one_intss | exact one_own rfl True.intro))
  | (apply w_bs0; iterate 1 exact rfl)
  | (apply w_appn; exact rfl; exact rfl; (first | exact .ints _ | exact .sli rfl | exact .orow rfl | exact .nil | exact .osub rfl (by simp; omega)); exact rfl)
  | (apply w_app; exact rfl; exact rfl; exact rfl; exact rfl; (first | exact .ints _ | exact .sli rfl | exact .orow rfl | exact .nil | exact .osub rfl (by simp; omega)); rotate_left 1; simp only [Env.mp, List.map_cons, List.map_nil, List.set_cons_zero, List.set_cons_succ, AV.kill, AV.kill1, AO.kill, AV.noRow, AV.noRow1, AO.via, reduceIte, Nat.reduceEqDiff, Nat.reduceLT, Env.up, Nat.zero_ne_one, Nat.one_ne_zero, Nat.reduceAdd, List.cons_append, List.nil_append]; rotate_left 1)
  | (apply w_alst; iterate 2 exact rfl)
  | (apply w_alone; iterate 3 exact rfl)
  | (apply w_sti; exact rfl; exact rfl; rotate_left 1; exact rfl; rotate_left 2)
  | (apply w_stst; iterate 5 exact rfl)
  | (apply w_stbv; iterate 6 exact rfl)
  | (apply w_stbo; exact rfl; exact rfl; exact rfl; exact rfl; exact rfl; exact True.intro)
  | ((apply AOps.splitB; exact rfl; exact rfl) <;> intro h)
  | apply AllOf.nil
  | (apply AllOf.cons; exact rfl)
  | (apply AAny.take; exact rfl; exact rfl; kernel_rfl; kernel_rfl)
  | (apply AAny.all; exact rfl)
  | (apply AAny.done; exact rfl)
  | (apply inI_of <;> omega)
  | omega
  | (simp <;> omega))
    refine AWp.loop (ι := Nat) (fun k => ⟨60, [(2, .optr 0 0), (3, .optr 1 0), (4, .optr 2 0), (5, .own 3), (6, .i i), (7, .i k)]⟩) (fun k => [.bx 26 [.intss f], .bx 26 [.intss g], .bx 26 [.val (.slice none 0 0)], .sls 52 2 (tmR (tmL f g i) (gets f (i : Nat)) g k)]) (fun k => k ≤ g.length) (fun k => g.length - k) 0 (by omega) ⟨lee rfl (by (repeat (first | exact le_nil | refine le_eq rfl rfl ?_ | refine le_eq rfl (congrArg AV.i (by omega)) ?_))), by (repeat (first | exact lo_nil | refine lo_dead ?_ | refine lo_eq rfl ?_)), rfl, rfl⟩ ?_
    rintro k k0
    have inv2 := tmR_inv hf hg hi inv k k0
    by_cases hkk : k < g.length
    · have h2 := te_at hg hkk
      have hm := mulC h1.2.2.2 h2.2.2.2
      have hl := hmul i k hi k0
      have hput := l17Put_c (tmR (tmL f g i) (gets f (i : Nat)) g k) (geti (gets f (i : Nat)) 0 + geti (gets g (k : Nat)) 0) (geti (gets f (i : Nat)) 1 + geti (gets g (k : Nat)) 1) (geti (gets f (i : Nat)) 2 * geti (gets g (k : Nat)) 2) (fun t ht => (inv2.nz t ht).1) (by have := inv2.len; omega) (by omega) (by omega) (by omega)
      repeat' (first
  | (apply AOps.nil; try simp only [List.nil_append, List.cons_append, List.set_cons_zero, List.set_cons_succ, List.length_cons, List.length_nil, Nat.reduceAdd, AV.sh, AV.sh1, AV.sh0, AO.sh, List.map_cons, List.map_nil, Nat.zero_add, Nat.add_zero, setAll])
  | ((apply AOps.splitP; exact rfl; exact rfl) <;> intro h)
  | ((apply AOps.splitN; exact rfl; exact rfl) <;> intro h)
  | (apply w_move; exact rfl; exact rfl)
  | (apply w_assign; exact rfl; exact rfl)
  | apply AWp.seq
  | apply AWp.region
  | ((apply AWp.condP; exact rfl) <;> intro h)
  | ((apply AWp.condN; exact rfl) <;> intro h)
  | (apply AWp.condT; exact rfl)
  | (apply AWp.condF; exact rfl)
  | ((apply AWp.condB; exact rfl) <;> intro h)
  | apply AWp.block
  | apply AWp.ret
  | apply AWp.exit
  | apply AWp.skip
  | (apply if_pos'; exact rfl)
  | (apply if_neg'; decide)
  | (apply w_skip; exact rfl)
  | (apply w_pickT; exact rfl; exact rfl; exact rfl)
  | (apply w_pickF; exact rfl; exact rfl; exact rfl)
  | (apply w_len; exact rfl; exact rfl; first | exact .ints _ | exact .intss _ | exact .sli rfl | exact .sls rfl | exact .slr rfl | exact .orow rfl | exact .nil)
  | omega
  | ((first | apply w_lss | apply w_leq | apply w_gtr | apply w_geq | apply w_eql | apply w_neq | apply w_add | apply w_sub | apply w_mul | apply w_idx | apply w_ld | apply w_fld | apply w_fa | apply w_extv | apply w_min | apply w_max | apply w_slhi | apply w_sllo | apply w_bs2); iterate 3 exact rfl)
  | ((first | apply w_eqlb | apply w_neqb | apply w_idxs | apply w_lds | apply w_ext); iterate 3 exact rfl)
  | (apply w_rem; exact rfl; exact rfl; exact rfl; (focus (omega; done)); (focus (omega; done)))
  | (apply w_quo; exact rfl; exact rfl; exact rfl; (focus (omega; done)); (focus (omega; done)))
  | (apply w_remT; exact rfl; exact rfl; exact rfl)
  | (apply w_quoT; exact rfl; exact rfl; exact rfl)
  | ((first | apply w_not | apply w_neg | apply w_conv | apply w_build0 | apply w_bs1 | apply w_boxa); iterate 2 exact rfl)
  | (apply w_idxo; exact rfl; exact rfl; (first | exact .sli rfl | exact .sls rfl | exact .slr rfl); exact rfl)
  | ((first | apply w_idxr | apply w_ldr); iterate 4 exact rfl)
  | (apply w_ldo; iterate 4 exact rfl)
  | (apply w_ldls; iterate 4 exact rfl)
  | (apply w_ldrp; iterate 4 exact rfl)
  | (apply w_ldb; iterate 5 exact rfl)
  | (apply w_ldst; iterate 5 exact rfl)
  | ((first | apply w_sllh | apply w_stbi); iterate 4 exact rfl)
  | ((first | apply w_oslo | apply w_oshi | apply w_stbii); iterate 4 exact rfl)
  | (apply w_build1; exact rfl; exact rfl; (first | exact one_val rfl rfl | exact one_ints | exact one_intss | exact one_own rfl True.intro))
  | (apply w_build2; exact rfl; exact rfl; exact rfl; (first | exact one_val rfl rfl | exact one_ints | exact one_intss | exact one_own rfl True.intro); (first | exact one_val rfl rfl | exact one_ints | exact one_intss | exact one_own rfl True.intro))
  | (apply w_bs0; iterate 1 exact rfl)
  | (apply w_appn; exact rfl; exact rfl; (first | exact .ints _ | exact .sli rfl | exact .orow rfl | exact .nil | exact .osub rfl (by simp; omega)); exact rfl)
  | (apply w_app; exact rfl; exact rfl; exact rfl; exact rfl; (first | exact .ints _ | exact .sli rfl | exact .orow rfl | exact .nil | exact .osub rfl (by simp; omega)); rotate_left 1; simp only [Env.mp, List.map_cons, List.map_nil, List.set_cons_zero, List.set_cons_succ, AV.kill, AV.kill1, AO.kill, AV.noRow, AV.noRow1, AO.via, reduceIte, Nat.reduceEqDiff, Nat.reduceLT, Env.up, Nat.zero_ne_one, Nat.one_ne_zero, Nat.reduceAdd, List.cons_append, List.nil_append]; rotate_left 1)
  | (apply w_alst; iterate 2 exact rfl)
  | (apply w_alone; iterate 3 exact rfl)
  | (apply w_sti; exact rfl; exact rfl; rotate_left 1; exact rfl; rotate_left 2)
  | (apply w_stst; iterate 5 exact rfl)
  | (apply w_stbv; iterate 6 exact rfl)
  | (apply w_stbo; exact rfl; exact rfl; exact rfl; exact rfl; exact rfl; exact True.intro)
  | ((apply AOps.splitB; exact rfl; exact rfl) <;> intro h)
  | apply AllOf.nil
  | (apply AllOf.cons; exact rfl)
  | (apply AAny.take; exact rfl; exact rfl; kernel_rfl; kernel_rfl)
  | (apply AAny.all; exact rfl)
  | (apply AAny.done; exact rfl)
  | (apply inI_of <;> omega)
  | omega
  | (simp <;> omega))
      apply AWp.regionQ; kernel_rfl; kernel_rfl
      repeat' (first
  | (apply AOps.nil; try simp only [List.nil_append, List.cons_append, List.set_cons_zero, List.set_cons_succ, List.length_cons, List.length_nil, Nat.reduceAdd, AV.sh, AV.sh1, AV.sh0, AO.sh, List.map_cons, List.map_nil, Nat.zero_add, Nat.add_zero, setAll])
  | ((apply AOps.splitP; exact rfl; exact rfl) <;> intro h)
  | ((apply AOps.splitN; exact rfl; exact rfl) <;> intro h)
  | (apply w_move; exact rfl; exact rfl)
  | (apply w_assign; exact rfl; exact rfl)
  | apply AWp.seq
  | apply AWp.region
  | ((apply AWp.condP; exact rfl) <;> intro h)
  | ((apply AWp.condN; exact rfl) <;> intro h)
  | (apply AWp.condT; exact rfl)
  | (apply AWp.condF; exact rfl)
  | ((apply AWp.condB; exact rfl) <;> intro h)
  | apply AWp.block
  | apply AWp.ret
  | apply AWp.exit
  | apply AWp.skip
  | (apply if_pos'; exact rfl)
  | (apply if_neg'; decide)
  | (apply w_skip; exact rfl)
  | (apply w_pickT; exact rfl; exact rfl; exact rfl)
  | (apply w_pickF; exact rfl; exact rfl; exact rfl)
  | (apply w_len; exact rfl; exact rfl; first | exact .ints _ | exact .intss _ | exact .sli rfl | exact .sls rfl | exact .slr rfl | exact .orow rfl | exact .nil)
  | omega
  | ((first | apply w_lss | apply w_leq | apply w_gtr | apply w_geq | apply w_eql | apply w_neq | apply w_add | apply w_sub | apply w_mul | apply w_idx | apply w_ld | apply w_fld | apply w_fa | apply w_extv | apply w_min | apply w_max | apply w_slhi | apply w_sllo | apply w_bs2); iterate 3 exact rfl)
  | ((first | apply w_eqlb | apply w_neqb | apply w_idxs | apply w_lds | apply w_ext); iterate 3 exact rfl)
  | (apply w_rem; exact rfl; exact rfl; exact rfl; (focus (omega; done)); (focus (omega; done)))
  | (apply w_quo; exact rfl; exact rfl; exact rfl; (focus (omega; done)); (focus (omega; done)))
  | (apply w_remT; exact rfl; exact rfl; exact rfl)
  | (apply w_quoT; exact rfl; exact rfl; exact rfl)
  | ((first | apply w_not | apply w_neg | apply w_conv | apply w_build0 | apply w_bs1 | apply w_boxa); iterate 2 exact rfl)
  | (apply w_idxo; exact rfl; exact rfl; (first | exact .sli rfl | exact .sls rfl | exact .slr rfl); exact rfl)
  | ((first | apply w_idxr | apply w_ldr); iterate 4 exact rfl)
  | (apply w_ldo; iterate 4 exact rfl)
  | (apply w_ldls; iterate 4 exact rfl)
  | (apply w_ldrp; iterate 4 exact rfl)
  | (apply w_ldb; iterate 5 exact rfl)
  | (apply w_ldst; iterate 5 exact rfl)
  | ((first | apply w_sllh | apply w_stbi); iterate 4 exact rfl)
  | ((first | apply w_oslo | apply w_oshi | apply w_stbii); iterate 4 exact rfl)
  | (apply w_build1; exact rfl; exact rfl; (first | exact one_val rfl rfl | exact one_ints | exact one_intss | exact one_own rfl True.intro))
  | (apply w_build2; exact rfl; exact rfl; exact rfl; (first | exact one_val rfl rfl | exact one_ints | exact one_intss | exact one_own rfl True.intro); (first | exact one_val rfl rfl | exact one_ints | exact one_intss | exact one_own rfl True.intro))
  | (apply w_bs0; iterate 1 exact rfl)
  | (apply w_appn; exact rfl; exact rfl; (first | exact .ints _ | exact .sli rfl | exact .orow rfl | exact .nil | exact .osub rfl (by simp; omega)); exact rfl)
  | (apply w_app; exact rfl; exact rfl; exact rfl; exact rfl; (first | exact .ints _ | exact .sli rfl | exact .orow rfl | exact .nil | exact .osub rfl (by simp; omega)); rotate_left 1; simp only [Env.mp, List.map_cons, List.map_nil, List.set_cons_zero, List.set_cons_succ, AV.kill, AV.kill1, AO.kill, AV.noRow, AV.noRow1, AO.via, reduceIte, Nat.reduceEqDiff, Nat.reduceLT, Env.up, Nat.zero_ne_one, Nat.one_ne_zero, Nat.reduceAdd, List.cons_append, List.nil_append]; rotate_left 1)
  | (apply w_alst; iterate 2 exact rfl)
  | (apply w_alone; iterate 3 exact rfl)
  | (apply w_sti; exact rfl; exact rfl; rotate_left 1; exact rfl; rotate_left 2)
  | (apply w_stst; iterate 5 exact rfl)
  | (apply w_stbv; iterate 6 exact rfl)
  | (apply w_stbo; exact rfl; exact rfl; exact rfl; exact rfl; exact rfl; exact True.intro)
  | ((apply AOps.splitB; exact rfl; exact rfl) <;> intro h)
  | apply AllOf.nil
  | (apply AllOf.cons; exact rfl)
  | (apply AAny.take; exact rfl; exact rfl; kernel_rfl; kernel_rfl)
  | (apply AAny.all; exact rfl)
  | (apply AAny.done; exact rfl)
  | (apply inI_of <;> omega)
  | omega
  | (simp <;> omega))
      refine AWp.regionG [] (by kernel_rfl) (envC := ⟨60, [(2, .optr 0 0), (3, .optr 1 0), (4, .optr 2 0), (5, .own 3), (6, .i i), (7, .i k)]⟩) (osC := [.bx 26 [.intss f], .bx 26 [.intss g], .bx 26 [.val (.slice none 0 0)], .sls 52 2 (tmR (tmL f g i) (gets f (i : Nat)) g (k + 1))]) rfl rfl ?_ ?_
      · repeat' (first
  | (apply AOps.nil; try simp only [List.nil_append, List.cons_append, List.set_cons_zero, List.set_cons_succ, List.length_cons, List.length_nil, Nat.reduceAdd, AV.sh, AV.sh1, AV.sh0, AO.sh, List.map_cons, List.map_nil, Nat.zero_add, Nat.add_zero, setAll])
  | ((apply AOps.splitP; exact rfl; exact rfl) <;> intro h)
  | ((apply AOps.splitN; exact rfl; exact rfl) <;> intro h)
  | (apply w_move; exact rfl; exact rfl)
  | (apply w_assign; exact rfl; exact rfl)
  | apply AWp.seq
  | apply AWp.region
  | ((apply AWp.condP; exact rfl) <;> intro h)
  | ((apply AWp.condN; exact rfl) <;> intro h)
  | (apply AWp.condT; exact rfl)
  | (apply AWp.condF; exact rfl)
  | ((apply AWp.condB; exact rfl) <;> intro h)
  | apply AWp.block
  | apply AWp.ret
  | apply AWp.exit
  | apply AWp.skip
  | (apply AWp.regionQ; kernel_rfl; kernel_rfl)
  | (apply if_pos'; exact rfl)
  | (apply if_neg'; decide)
  | (apply w_skip; exact rfl)
  | (apply w_pickT; exact rfl; exact rfl; exact rfl)
  | (apply w_pickF; exact rfl; exact rfl; exact rfl)
  | (apply w_len; exact rfl; exact rfl; first | exact .ints _ | exact .intss _ | exact .sli rfl | exact .sls rfl | exact .slr rfl | exact .orow rfl | exact .nil)
  | apply AllOfG.nil
  | (apply AllOfG.consQ; exact rfl; exact rfl)
  | (apply AllOfG.consS; exact rfl; exact rfl)
  | (apply AAnyG.takeW; exact rfl; exact rfl; kernel_rfl; kernel_rfl)
  | (apply AAnyG.takeL; exact rfl; exact rfl; kernel_rfl)
  | (apply AAnyG.all; exact rfl)
  | (apply AAnyG.done; exact rfl)
  | (apply w_callt 3 (hput); exact rfl; exact rfl; (focus ((repeat (first | exact imu_nil | refine imu_cons rfl (.val _) ?_ | refine imu_cons rfl (.ints _) ?_ | refine imu_cons rfl (.own rfl) ?_ | refine imu_cons rfl (.sli rfl (by decide)) ?_ | refine imu_cons rfl (.intss _) ?_ | refine imu_cons rfl (.sls rfl (by decide)) ?_ | refine imu_cons rfl (imu_agg2 (.val _) (.own rfl)) ?_ | refine imu_cons rfl (imu_agg2 (.own rfl) (.own rfl)) ?_ | refine imu_cons rfl (imu_agg1 (.own rfl)) ?_)); done)); rintro xss0 rfl; simp only [Env.mp, List.map_cons, List.map_nil, List.set_cons_zero, List.set_cons_succ, AV.kill, AV.kill1, AO.kill, AV.lose, AV.lose1, List.map_append, map_orow_kill, AV.noRow, AV.noRow1, AO.via, reduceIte, Nat.reduceEqDiff, Nat.reduceLT, Env.up, Nat.zero_ne_one, Nat.one_ne_zero, Nat.reduceAdd, List.cons_append, List.nil_append])
  | omega
  | ((first | apply w_lss | apply w_leq | apply w_gtr | apply w_geq | apply w_eql | apply w_neq | apply w_add | apply w_sub | apply w_mul | apply w_idx | apply w_ld | apply w_fld | apply w_fa | apply w_extv | apply w_min | apply w_max | apply w_slhi | apply w_sllo | apply w_bs2); iterate 3 exact rfl)
  | ((first | apply w_eqlb | apply w_neqb | apply w_idxs | apply w_lds | apply w_ext); iterate 3 exact rfl)
  | (apply w_rem; exact rfl; exact rfl; exact rfl; (focus (omega; done)); (focus (omega; done)))
  | (apply w_quo; exact rfl; exact rfl; exact rfl; (focus (omega; done)); (focus (omega; done)))
  | (apply w_remT; exact rfl; exact rfl; exact rfl)
  | (apply w_quoT; exact rfl; exact rfl; exact rfl)
  | ((first | apply w_not | apply w_neg | apply w_conv | apply w_build0 | apply w_bs1 | apply w_boxa); iterate 2 exact rfl)
  | (apply w_idxo; exact rfl; exact rfl; (first | exact .sli rfl | exact .sls rfl | exact .slr rfl); exact rfl)
  | ((first | apply w_idxr | apply w_ldr); iterate 4 exact rfl)
  | (apply w_ldo; iterate 4 exact rfl)
  | (apply w_ldls; iterate 4 exact rfl)
  | (apply w_ldrp; iterate 4 exact rfl)
  | (apply w_ldb; iterate 5 exact rfl)
  | (apply w_ldst; iterate 5 exact rfl)
  | ((first | apply w_sllh | apply w_stbi); iterate 4 exact rfl)
  | ((first | apply w_oslo | apply w_oshi | apply w_stbii); iterate 4 exact rfl)
  | (apply w_build1; exact rfl; exact rfl; (first | exact one_val rfl rfl | exact one_ints | exact one_intss | exact one_own rfl True.intro))
  | (apply w_build2; exact rfl; exact rfl; exact rfl; (first | exact one_val rfl rfl | exact one_ints | exact one_intss | exact one_own rfl True.intro); (first | exact one_val rfl rfl | exact one_ints | exact one_intss | exact one_own rfl True.intro))
  | (apply w_bs0; iterate 1 exact rfl)
  | (apply w_appn; exact rfl; exact rfl; (first | exact .ints _ | exact .sli rfl | exact .orow rfl | exact .nil | exact .osub rfl (by simp; omega)); exact rfl)
  | (apply w_app; exact rfl; exact rfl; exact rfl; exact rfl; (first | exact .ints _ | exact .sli rfl | exact .orow rfl | exact .nil | exact .osub rfl (by simp; omega)); rotate_left 1; simp only [Env.mp, List.map_cons, List.map_nil, List.set_cons_zero, List.set_cons_succ, AV.kill, AV.kill1, AO.kill, AV.noRow, AV.noRow1, AO.via, reduceIte, Nat.reduceEqDiff, Nat.reduceLT, Env.up, Nat.zero_ne_one, Nat.one_ne_zero, Nat.reduceAdd, List.cons_append, List.nil_append]; rotate_left 1)
  | (apply w_alst; iterate 2 exact rfl)
  | (apply w_alone; iterate 3 exact rfl)
  | (apply w_sti; exact rfl; exact rfl; rotate_left 1; exact rfl; rotate_left 2)
  | (apply w_stst; iterate 5 exact rfl)
  | (apply w_stbv; iterate 6 exact rfl)
  | (apply w_stbo; exact rfl; exact rfl; exact rfl; exact rfl; exact rfl; exact True.intro)
  | ((apply AOps.splitB; exact rfl; exact rfl) <;> intro h)
  | apply AllOf.nil
  | (apply AllOf.cons; exact rfl)
  | (apply AAny.take; exact rfl; exact rfl; kernel_rfl; kernel_rfl)
  | (apply AAny.all; exact rfl)
  | (apply AAny.done; exact rfl)
  | (apply inI_of <;> omega)
  | omega
  | (simp <;> omega))
        all_goals (first | (apply Or.inl; refine ⟨lee rfl ?_, ?_, rfl, rfl⟩; (focus ((repeat (first | exact le_nil | refine le_eq rfl rfl ?_ | (refine le_eq rfl (congrArg AV.i ?_) ?_; (focus (omega; done))))); done)); (focus ((repeat (first | exact lo_nil | refine lo_dead ?_ | refine lo_eq rfl ?_)); done))))
      repeat' (first
  | (apply AOps.nil; try simp only [List.nil_append, List.cons_append, List.set_cons_zero, List.set_cons_succ, List.length_cons, List.length_nil, Nat.reduceAdd, AV.sh, AV.sh1, AV.sh0, AO.sh, List.map_cons, List.map_nil, Nat.zero_add, Nat.add_zero, setAll])
  | ((apply AOps.splitP; exact rfl; exact rfl) <;> intro h)
  | ((apply AOps.splitN; exact rfl; exact rfl) <;> intro h)
  | (apply w_move; exact rfl; exact rfl)
  | (apply w_assign; exact rfl; exact rfl)
  | apply AWp.seq
  | apply AWp.region
  | ((apply AWp.condP; exact rfl) <;> intro h)
  | ((apply AWp.condN; exact rfl) <;> intro h)
  | (apply AWp.condT; exact rfl)
  | (apply AWp.condF; exact rfl)
  | ((apply AWp.condB; exact rfl) <;> intro h)
  | apply AWp.block
  | apply AWp.ret
  | apply AWp.exit
  | apply AWp.skip
  | (apply if_pos'; exact rfl)
  | (apply if_neg'; decide)
  | (apply w_skip; exact rfl)
  | (apply w_pickT; exact rfl; exact rfl; exact rfl)
  | (apply w_pickF; exact rfl; exact rfl; exact rfl)
  | (apply w_len; exact rfl; exact rfl; first | exact .ints _ | exact .intss _ | exact .sli rfl | exact .sls rfl | exact .slr rfl | exact .orow rfl | exact .nil)
  | ((first | apply w_lss | apply w_leq | apply w_gtr | apply w_geq | apply w_eql | apply w_neq | apply w_add | apply w_sub | apply w_mul | apply w_idx | apply w_ld | apply w_fld | apply w_fa | apply w_extv | apply w_min | apply w_max | apply w_slhi | apply w_sllo | apply w_bs2); iterate 3 exact rfl)
  | ((first | apply w_eqlb | apply w_neqb | apply w_idxs | apply w_lds | apply w_ext); iterate 3 exact rfl)
  | (apply w_rem; exact rfl; exact rfl; exact rfl; (focus (omega; done)); (focus (omega; done)))
  | (apply w_quo; exact rfl; exact rfl; exact rfl; (focus (omega; done)); (focus (omega; done)))
  | (apply w_remT; exact rfl; exact rfl; exact rfl)
  | (apply w_quoT; exact rfl; exact rfl; exact rfl)
  | ((first | apply w_not | apply w_neg | apply w_conv | apply w_build0 | apply w_bs1 | apply w_boxa); iterate 2 exact rfl)
  | (apply w_idxo; exact rfl; exact rfl; (first | exact .sli rfl | exact .sls rfl | exact .slr rfl); exact rfl)
  | ((first | apply w_idxr | apply w_ldr); iterate 4 exact rfl)
  | (apply w_ldo; iterate 4 exact rfl)
  | (apply w_ldls; iterate 4 exact rfl)
  | (apply w_ldrp; iterate 4 exact rfl)
  | (apply w_ldb; iterate 5 exact rfl)
  | (apply w_ldst; iterate 5 exact rfl)
  | ((first | apply w_sllh | apply w_stbi); iterate 4 exact rfl)
  | ((first | apply w_oslo | apply w_oshi | apply w_stbii); iterate 4 exact rfl)
  | (apply w_build1; exact rfl; exact rfl; (first | exact one_val rfl rfl | exact one_ints | exact one_intss | exact one_own rfl True.intro))
  | (apply w_build2; exact rfl; exact rfl; exact rfl; (first | exact one_val rfl rfl | exact one_ints | exact one_intss | exact one_own rfl True.intro); (first | exact one_val rfl rfl | exact one_ints | exact one_intss | exact one_own rfl True.intro))
  | (apply w_bs0; iterate 1 exact rfl)
  | (apply w_appn; exact rfl; exact rfl; (first | exact .ints _ | exact .sli rfl | exact .orow rfl | exact .nil | exact .osub rfl (by simp; omega)); exact rfl)
  | (apply w_app; exact rfl; exact rfl; exact rfl; exact rfl; (first | exact .ints _ | exact .sli rfl | exact .orow rfl | exact .nil | exact .osub rfl (by simp; omega)); rotate_left 1; simp only [Env.mp, List.map_cons, List.map_nil, List.set_cons_zero, List.set_cons_succ, AV.kill, AV.kill1, AO.kill, AV.noRow, AV.noRow1, AO.via, reduceIte, Nat.reduceEqDiff, Nat.reduceLT, Env.up, Nat.zero_ne_one, Nat.one_ne_zero, Nat.reduceAdd, List.cons_append, List.nil_append]; rotate_left 1)
  | (apply w_alst; iterate 2 exact rfl)
  | (apply w_alone; iterate 3 exact rfl)
  | (apply w_sti; exact rfl; exact rfl; rotate_left 1; exact rfl; rotate_left 2)
  | (apply w_stst; iterate 5 exact rfl)
  | (apply w_stbv; iterate 6 exact rfl)
  | (apply w_stbo; exact rfl; exact rfl; exact rfl; exact rfl; exact rfl; exact True.intro)
  | ((apply AOps.splitB; exact rfl; exact rfl) <;> intro h)
  | apply AllOf.nil
  | (apply AllOf.cons; exact rfl)
  | (apply AAny.take; exact rfl; exact rfl; kernel_rfl; kernel_rfl)
  | (apply AAny.all; exact rfl)
  | (apply AAny.done; exact rfl)
  | (apply inI_of <;> omega)
  | omega
  | (simp <;> omega))
      exact ⟨k + 1, hkk, by omega, ⟨lee rfl (by (repeat (first | exact le_nil | refine le_eq rfl rfl ?_ | refine le_eq rfl (congrArg AV.i (by omega)) ?_))), by (repeat (first | exact lo_nil | refine lo_dead ?_ | refine lo_eq rfl ?_)), rfl, rfl⟩⟩
    · have e : k = g.length := by omega
      subst e
      repeat' (first
  | (apply AOps.nil; try simp only [List.nil_append, List.cons_append, List.set_cons_zero, List.set_cons_succ, List.length_cons, List.length_nil, Nat.reduceAdd, AV.sh, AV.sh1, AV.sh0, AO.sh, List.map_cons, List.map_nil, Nat.zero_add, Nat.add_zero, setAll])
  | ((apply AOps.splitP; exact rfl; exact rfl) <;> intro h)
  | ((apply AOps.splitN; exact rfl; exact rfl) <;> intro h)
  | (apply w_move; exact rfl; exact rfl)
  | (apply w_assign; exact rfl; exact rfl)
  | apply AWp.seq
  | apply AWp.region
  | ((apply AWp.condP; exact rfl) <;> intro h)
  | ((apply AWp.condN; exact rfl) <;> intro h)
  | (apply AWp.condT; exact rfl)
  | (apply AWp.condF; exact rfl)
  | ((apply AWp.condB; exact rfl) <;> intro h)
  | apply AWp.block
  | apply AWp.ret
  | apply AWp.exit
  | apply AWp.skip
  | (apply if_pos'; exact rfl)
  | (apply if_neg'; decide)
  | (apply w_skip; exact rfl)
  | (apply w_pickT; exact rfl; exact rfl; exact rfl)
  | (apply w_pickF; exact rfl; exact rfl; exact rfl)
  | (apply w_len; exact rfl; exact rfl; first | exact .ints _ | exact .intss _ | exact .sli rfl | exact .sls rfl | exact .slr rfl | exact .orow rfl | exact .nil)
  | omega
  | ((first | apply w_lss | apply w_leq | apply w_gtr | apply w_geq | apply w_eql | apply w_neq | apply w_add | apply w_sub | apply w_mul | apply w_idx | apply w_ld | apply w_fld | apply w_fa | apply w_extv | apply w_min | apply w_max | apply w_slhi | apply w_sllo | apply w_bs2); iterate 3 exact rfl)
  | ((first | apply w_eqlb | apply w_neqb | apply w_idxs | apply w_lds | apply w_ext); iterate 3 exact rfl)
  | (apply w_rem; exact rfl; exact rfl; exact rfl; (focus (omega; done)); (focus (omega; done)))
  | (apply w_quo; exact rfl; exact rfl; exact rfl; (focus (omega; done)); (focus (omega; done)))
  | (apply w_remT; exact rfl; exact rfl; exact rfl)
  | (apply w_quoT; exact rfl; exact rfl; exact rfl)
  | ((first | apply w_not | apply w_neg | apply w_conv | apply w_build0 | apply w_bs1 | apply w_boxa); iterate 2 exact rfl)
  | (apply w_idxo; exact rfl; exact rfl; (first | exact .sli rfl | exact .sls rfl | exact .slr rfl); exact rfl)
  | ((first | apply w_idxr | apply w_ldr); iterate 4 exact rfl)
  | (apply w_ldo; iterate 4 exact rfl)
  | (apply w_ldls; iterate 4 exact rfl)
  | (apply w_ldrp; iterate 4 exact rfl)
  | (apply w_ldb; iterate 5 exact rfl)
  | (apply w_ldst; iterate 5 exact rfl)
  | ((first | apply w_sllh | apply w_stbi); iterate 4 exact rfl)
  | ((first | apply w_oslo | apply w_oshi | apply w_stbii); iterate 4 exact rfl)
  | (apply w_build1; exact rfl; exact rfl; (first | exact one_val rfl rfl | exact one_ints | exact one_intss | exact one_own rfl True.intro))
  | (apply w_build2; exact rfl; exact rfl; exact rfl; (first | exact one_val rfl rfl | exact one_ints | exact one_intss | exact one_own rfl True.intro); (first | exact one_val rfl rfl | exact one_ints | exact one_intss | exact one_own rfl True.intro))
  | (apply w_bs0; iterate 1 exact rfl)
  | (apply w_appn; exact rfl; exact rfl; (first | exact .ints _ | exact .sli rfl | exact .orow rfl | exact .nil | exact .osub rfl (by simp; omega)); exact rfl)
  | (apply w_app; exact rfl; exact rfl; exact rfl; exact rfl; (first | exact .ints _ | exact .sli rfl | exact .orow rfl | exact .nil | exact .osub rfl (by simp; omega)); rotate_left 1; simp only [Env.mp, List.map_cons, List.map_nil, List.set_cons_zero, List.set_cons_succ, AV.kill, AV.kill1, AO.kill, AV.noRow, AV.noRow1, AO.via, reduceIte, Nat.reduceEqDiff, Nat.reduceLT, Env.up, Nat.zero_ne_one, Nat.one_ne_zero, Nat.reduceAdd, List.cons_append, List.nil_append]; rotate_left 1)
  | (apply w_alst; iterate 2 exact rfl)
  | (apply w_alone; iterate 3 exact rfl)
  | (apply w_sti; exact rfl; exact rfl; rotate_left 1; exact rfl; rotate_left 2)
  | (apply w_stst; iterate 5 exact rfl)
  | (apply w_stbv; iterate 6 exact rfl)
  | (apply w_stbo; exact rfl; exact rfl; exact rfl; exact rfl; exact rfl; exact True.intro)
  | ((apply AOps.splitB; exact rfl; exact rfl) <;> intro h)
  | apply AllOf.nil
  | (apply AllOf.cons; exact rfl)
  | (apply AAny.take; exact rfl; exact rfl; kernel_rfl; kernel_rfl)
  | (apply AAny.all; exact rfl)
  | (apply AAny.done; exact rfl)
  | (apply inI_of <;> omega)
  | omega
  | (simp <;> omega))
      exact ⟨i + 1, hi, by omega, ⟨lee rfl (by (repeat (first | exact le_nil | refine le_eq rfl rfl ?_ | refine le_eq rfl (congrArg AV.i (by omega)) ?_))), by (repeat (first | exact lo_nil | refine lo_dead ?_ | refine lo_eq rfl ?_)), rfl, rfl⟩⟩
  · have e : i = f.length := by omega
    subst e
    repeat' (first
  | (apply AOps.nil; try simp only [List.nil_append, List.cons_append, List.set_cons_zero, List.set_cons_succ, List.length_cons, List.length_nil, Nat.reduceAdd, AV.sh, AV.sh1, AV.sh0, AO.sh, List.map_cons, List.map_nil, Nat.zero_add, Nat.add_zero, setAll])
  | ((apply AOps.splitP; exact rfl; exact rfl) <;> intro h)
  | ((apply AOps.splitN; exact rfl; exact rfl) <;> intro h)
  | (apply w_move; exact rfl; exact rfl)
  | (apply w_assign; exact rfl; exact rfl)
  | apply AWp.seq
  | apply AWp.region
  | ((apply AWp.condP; exact rfl) <;> intro h)
  | ((apply AWp.condN; exact rfl) <;> intro h)
  | (apply AWp.condT; exact rfl)
  | (apply AWp.condF; exact rfl)
  | ((apply AWp.condB; exact rfl) <;> intro h)
  | apply AWp.block
  | apply AWp.ret
  | apply AWp.exit
  | apply AWp.skip
  | (apply if_pos'; exact rfl)
  | (apply if_neg'; decide)
  | (apply w_skip; exact rfl)
  | (apply w_pickT; exact rfl; exact rfl; exact rfl)
  | (apply w_pickF; exact rfl; exact rfl; exact rfl)
  | (apply w_len; exact rfl; exact rfl; first | exact .ints _ | exact .intss _ | exact .sli rfl | exact .sls rfl | exact .slr rfl | exact .orow rfl | exact .nil)
  | omega
  | ((first | apply w_lss | apply w_leq | apply w_gtr | apply w_geq | apply w_eql | apply w_neq | apply w_add | apply w_sub | apply w_mul | apply w_idx | apply w_ld | apply w_fld | apply w_fa | apply w_extv | apply w_min | apply w_max | apply w_slhi | apply w_sllo | apply w_bs2); iterate 3 exact rfl)
  | ((first | apply w_eqlb | apply w_neqb | apply w_idxs | apply w_lds | apply w_ext); iterate 3 exact rfl)
  | (apply w_rem; exact rfl; exact rfl; exact rfl; (focus (omega; done)); (focus (omega; done)))
  | (apply w_quo; exact rfl; exact rfl; exact rfl; (focus (omega; done)); (focus (omega; done)))
  | (apply w_remT; exact rfl; exact rfl; exact rfl)
  | (apply w_quoT; exact rfl; exact rfl; exact rfl)
  | ((first | apply w_not | apply w_neg | apply w_conv | apply w_build0 | apply w_bs1 | apply w_boxa); iterate 2 exact rfl)
  | (apply w_idxo; exact rfl; exact rfl; (first | exact .sli rfl | exact .sls rfl | exact .slr rfl); exact rfl)
  | ((first | apply w_idxr | apply w_ldr); iterate 4 exact rfl)
  | (apply w_ldo; iterate 4 exact rfl)
  | (apply w_ldls; iterate 4 exact rfl)
  | (apply w_ldrp; iterate 4 exact rfl)
  | (apply w_ldb; iterate 5 exact rfl)
  | (apply w_ldst; iterate 5 exact rfl)
  | ((first | apply w_sllh | apply w_stbi); iterate 4 exact rfl)
  | ((first | apply w_oslo | apply w_oshi | apply w_stbii); iterate 4 exact rfl)
  | (apply w_build1; exact rfl; exact rfl; (first | exact one_val rfl rfl | exact one_ints | exact one_intss | exact one_own rfl True.intro))
  | (apply w_build2; exact rfl; exact rfl; exact rfl; (first | exact one_val rfl rfl | exact one_ints | exact one_intss | exact one_own rfl True.intro); (first | exact one_val rfl rfl | exact one_ints | exact one_intss | exact one_own rfl True.intro))
  | (apply w_bs0; iterate 1 exact rfl)
  | (apply w_appn; exact rfl; exact rfl; (first | exact .ints _ | exact .sli rfl | exact .orow rfl | exact .nil | exact .osub rfl (by simp; omega)); exact rfl)
  | (apply w_app; exact rfl; exact rfl; exact rfl; exact rfl; (first | exact .ints _ | exact .sli rfl | exact .orow rfl | exact .nil | exact .osub rfl (by simp; omega)); rotate_left 1; simp only [Env.mp, List.map_cons, List.map_nil, List.set_cons_zero, List.set_cons_succ, AV.kill, AV.kill1, AO.kill, AV.noRow, AV.noRow1, AO.via, reduceIte, Nat.reduceEqDiff, Nat.reduceLT, Env.up, Nat.zero_ne_one, Nat.one_ne_zero, Nat.reduceAdd, List.cons_append, List.nil_append]; rotate_left 1)
  | (apply w_alst; iterate 2 exact rfl)
  | (apply w_alone; iterate 3 exact rfl)
  | (apply w_sti; exact rfl; exact rfl; rotate_left 1; exact rfl; rotate_left 2)
  | (apply w_stst; iterate 5 exact rfl)
  | (apply w_stbv; iterate 6 exact rfl)
  | (apply w_stbo; exact rfl; exact rfl; exact rfl; exact rfl; exact rfl; exact True.intro)
  | ((apply AOps.splitB; exact rfl; exact rfl) <;> intro h)
  | apply AllOf.nil
  | (apply AllOf.cons; exact rfl)
  | (apply AAny.take; exact rfl; exact rfl; kernel_rfl; kernel_rfl)
  | (apply AAny.all; exact rfl)
  | (apply AAny.done; exact rfl)
  | (apply inI_of <;> omega)
  | omega
  | (simp <;> omega))
    exact ⟨_, _, _, .c1 Try.results38 rfl rfl rfl, .agg1 (.sls rfl), rfl, rfl⟩

end Go.Proofs.Ytkickbnahajpoaa
/-
  Linear changes of polynomials: the plain law. No program.
-/
namespace Go.Proofs.Ytkickbnahajpoaa
open Go Go.RowKit

/-- n times the form c x + d y. -/
def itF (c d : Int) (f : Int → Int → Int) : Nat → Int → Int → Int
  | 0 => f
  | n + 1 => tF c d (itF c d f n)
theorem itF_pw (c d : Int) : ∀ n, itF c d (pwF c d 0) n = pwF c d n
  | 0 => rfl
  | n + 1 => by rw [itF, itF_pw c d n, pwF]
theorem tF_mod (c d : Int) {f g : Int → Int → Int} (h : ∀ u v, f u v % 55441 = g u v % 55441) (u v : Int) : tF c d f u v = tF c d g u v := by
  unfold tF
  have h1 := h (u - 1) v
  have h2 := h u (v - 1)
  rw [Int.add_emod, Int.mul_emod (f _ _), h1, Int.mul_emod (f u _), h2, ← Int.mul_emod, ← Int.mul_emod, ← Int.add_emod]
theorem tF_idem (c d : Int) (f : Int → Int → Int) (u v : Int) : tF c d f u v % 55441 = tF c d f u v := by
  unfold tF; omega
/-- Forms keep multiples. -/
theorem tF_mul (c d z : Int) {f g : Int → Int → Int} (h : ∀ u v, g u v % 55441 = z * f u v % 55441) (u v : Int) : tF c d g u v % 55441 = z * tF c d f u v % 55441 := by
  rw [tF_mod c d h, tF_idem]
  unfold tF
  rw [Int.mul_emod z, Int.emod_emod_of_dvd _ (Int.dvd_refl _), ← Int.mul_emod]
  congr 1
  grind
theorem itF_mul (c d z : Int) {f g : Int → Int → Int} (h : ∀ u v, g u v % 55441 = z * f u v % 55441) : ∀ n u v, itF c d g n u v % 55441 = z * itF c d f n u v % 55441
  | 0, u, v => h u v
  | n + 1, u, v => tF_mul c d z (itF_mul c d z h n) u v

/-- The convolution with the k-th power of a form. -/
theorem conv_pw {L : Trs} (hL : KeysN L) {c d : Int} {Ls : List Trs} (h : ∀ n, n < Ls.length → PwI c d n (Ls.getD n [])) : ∀ k, k < Ls.length → ∀ u v, convP L (Ls.getD k []) u v % 55441 = itF c d (lookM L) k u v % 55441
  | 0, hk, u, v => by
    have h0 := h 0 hk
    have hB : InB 1 (Ls.getD 0 []) := fun t ht => by have := h0.bd t ht; omega
    rw [conv_box hL h0.keys hB]
    have e : box 1 (fun a b => lookM L (u - a) (v - b) * lookM (Ls.getD 0 []) a b) = lookM L u v := by
      unfold box
      simp only [List.range_one, sumL, h0.eq, pwF]
      simp
    rw [e]; rfl
  | k + 1, hk, u, v => by
    have h0 := h k (by omega)
    have h1 := h (k + 1) hk
    have hB : InB (k + 1) (Ls.getD k []) := fun t ht => by have := h0.bd t ht; omega
    have hB' : InB (k + 1 + 1) (Ls.getD (k + 1) []) := fun t ht => by have := h1.bd t ht; omega
    have e : lookM (Ls.getD k []) = pwF c d k := by funext a b; exact h0.eq a b
    rw [conv_lin hL h0.keys h1.keys hB hB' (c := c) (d := d) (fun a b => by rw [h1.eq, pwF, e]), itF, tF_idem]
    refine tF_mod c d (fun a b => ?_) u v
    rw [Int.emod_emod_of_dvd _ (Int.dvd_refl _)]
    exact conv_pw hL h k (by omega) a b
theorem it_deg (c d : Int) {f : Int → Int → Int} {k : Int} (hf : ∀ u v, f u v ≠ 0 → 0 ≤ u ∧ 0 ≤ v ∧ u + v = k) : ∀ n u v, itF c d f n u v ≠ 0 → 0 ≤ u ∧ 0 ≤ v ∧ u + v = k + n
  | 0, u, v, h => by have := hf u v h; omega
  | n + 1, u, v, h => by
    unfold itF tF at h
    by_cases h1 : itF c d f n (u - 1) v = 0
    · by_cases h2 : itF c d f n u (v - 1) = 0
      · rw [h1, h2] at h; simp at h
      · have := it_deg c d hf n u (v - 1) h2; omega
    · have := it_deg c d hf n (u - 1) v h1; omega

/-! ### The number of terms of degree at most 16 -/
def tri (n : Nat) : Nat := n * (n + 1) / 2
theorem tri_succ (n : Nat) : tri (n + 1) = tri n + n + 1 := by
  unfold tri
  have : (n + 1) * (n + 1 + 1) = n * (n + 1) + 2 * (n + 1) := by grind
  rw [this]; omega
theorem tri_mono {m n : Nat} (h : m < n) : tri m + m + 1 ≤ tri n := by
  induction n with
  | zero => omega
  | succ n ih =>
    rw [tri_succ]
    by_cases e : m = n
    · subst e; omega
    · have := ih (by omega); omega
def ixT (t : List Int) : Nat := tri (geti t 0 + geti t 1).toNat + (geti t 0).toNat
theorem srt_len {ts : List (List Int)} (hs : Srt ts) (h : ∀ t ∈ ts, 0 ≤ geti t 0 ∧ 0 ≤ geti t 1 ∧ geti t 0 + geti t 1 ≤ 16) : ts.length ≤ 153 := by
  have hlt : ∀ t ∈ ts, ixT t < 153 := fun t ht => by
    have := h t ht
    have h1 : tri (geti t 0 + geti t 1).toNat + (geti t 0 + geti t 1).toNat + 1 ≤ tri 17 := tri_mono (by omega)
    have h2 : tri 17 = 153 := rfl
    unfold ixT
    omega
  have hnd : (ts.map ixT).Nodup := by
    unfold List.Nodup
    rw [List.pairwise_map]
    refine (List.Pairwise.imp_of_mem (fun {a b} ha hb hab => ?_) hs)
    have h1 := h a ha
    have h2 := h b hb
    unfold bef at hab
    unfold ixT
    rcases hab with hab | hab
    · have := tri_mono (m := (geti a 0 + geti a 1).toNat) (n := (geti b 0 + geti b 1).toNat) (by omega)
      omega
    · have e : (geti a 0 + geti a 1).toNat = (geti b 0 + geti b 1).toNat := by omega
      rw [e]; omega
  have := done_len hnd (n := 153) (fun i hi => by
    obtain ⟨t, ht, rfl⟩ := List.mem_map.1 hi
    exact hlt t ht)
  simpa using this
end Go.Proofs.Ytkickbnahajpoaa
/-
  Sums of lists of terms of any size: the reference. No condition.
-/
namespace Go.Proofs.Ytkickbnahajpoaa
open Go Go.RowKit
attribute [local irreducible] AWp AOps ResIs Ret1 QOp LOp COp AFnV AFn Imms LeE LeO
set_option maxHeartbeats 1000000
set_option linter.unusedSimpArgs false
set_option linter.unusedVariables false

theorem sumE_key {L : Trs} (hL : KeysN L) (a b d : Int) : sumE (fun x => if x.1 = a ∧ x.2.1 = b then x.2.2 * d % 55441 else 0) L = lookM L a b * d % 55441 := by
  have h := sumE_at hL 0 0 a b d
  simpa using h
/-- What a sum of lists of terms is. -/
structure AdG (ts : List (List Int)) (S : Int → Int → Int) (n : Nat) : Prop where
  srt : Srt ts
  nz : TNz ts
  bd : ∀ t ∈ ts, geti t 0 ≤ 1000 ∧ geti t 1 ≤ 1000
  len : ts.length ≤ n
  eq : ∀ a b, cof ts a b = S a b % 55441
theorem ad_gen {f g : List (List Int)} {S : Int → Int → Int} {m : Nat} (hf : AdG f S m) (hg : Te g) {k : Int} (hk : 0 ≤ k ∧ k ≤ 55440) : ∀ n, n ≤ g.length →
    AdG (adL f k g n) (fun u v => S u v + sumL (fun j => if geti (gets g (j : Nat)) 0 = u ∧ geti (gets g (j : Nat)) 1 = v then k * geti (gets g (j : Nat)) 2 % 55441 else 0) (List.range n)) (m + n)
  | 0, _ => by simpa [sumL, adL] using hf
  | n + 1, hn => by
    have ih := ad_gen hf hg hk n (by omega)
    have h1 := te_at hg (show n < g.length by omega)
    have h3 : ∀ t ∈ adL f k g n, t.length = 3 := fun t ht => (ih.nz t ht).1.1
    refine ⟨srt_put _ ih.srt h3, nz_put ih.nz (by omega) (by omega) (by omega), fun x hx => ?_, ?_, fun u v => ?_⟩
    · rcases mem_put _ h3 x hx with h4 | ⟨h4, h5, _⟩
      · exact ih.bd x h4
      · omega
    · have := put_len (adL f k g n) (geti (gets g (n : Nat)) 0) (geti (gets g (n : Nat)) 1) (k * geti (gets g (n : Nat)) 2 % 55441)
      have := ih.len
      simp only [adL]
      omega
    · rw [adL, cof_put (by omega) u v _ ih.srt (fun t ht => (ih.nz t ht).1), sumL_succ]
      by_cases e : u = geti (gets g (n : Nat)) 0 ∧ v = geti (gets g (n : Nat)) 1
      · rw [if_pos e, if_pos ⟨e.1.symm, e.2.symm⟩, ih.eq, ← e.1, ← e.2]; omega
      · rw [if_neg e, if_neg (fun e' => e ⟨e'.1.symm, e'.2.symm⟩), ih.eq]; simp
theorem ad_all {f g : List (List Int)} {S : Int → Int → Int} {m : Nat} (hf : AdG f S m) (hg : Te g) (hgs : Srt g) {k : Int} (hk : 0 ≤ k ∧ k ≤ 55440) :
    AdG (adL f k g g.length) (fun u v => S u v + cof g u v * k % 55441) (m + g.length) := by
  have h := ad_gen hf hg hk g.length (Nat.le_refl _)
  have e : ∀ u v, sumL (fun j => if geti (gets g (j : Nat)) 0 = u ∧ geti (gets g (j : Nat)) 1 = v then k * geti (gets g (j : Nat)) 2 % 55441 else 0) (List.range g.length) = cof g u v * k % 55441 := fun u v => by
    rw [← look_toT, ← sumE_key (keys_toT hgs), ← sumE_idx, List.length_map]
    refine sumL_congr fun j _ => ?_
    rw [getD_toT, Int.mul_comm k]
    rfl
  simp only [e] at h
  exact h

set_option maxHeartbeats 4000000 in
theorem l17SumG_c (f g : List (List Int)) {S : Int → Int → Int} {m : Nat} (hf : AdG f S m) (hm : m ≤ 100000) (hg : Te g) (hlg : g.length ≤ 100000) (k : Int) (hk0 : 0 ≤ k ∧ k ≤ 55440) : AFn Try.prog 31 [.agg [.intss f], .i k, .agg [.intss g]] (IsPol (adL f k g g.length)) := by
  have hlf := hf.len
  have hown := l01Own2_c f (by omega) (fun d hd => by have := (hf.nz d hd).1.1; omega)
  (refine AFn.start Try.func31 Try.ntmps31 rfl (by kernel_rfl) fun hk => ?_; simp only [Env.start, enumF, List.length_cons, List.length_nil, Nat.reduceAdd, Nat.reduceSub, List.cons_append, List.nil_append])
  repeat' (first
  | (apply AOps.nil; try simp only [List.nil_append, List.cons_append, List.set_cons_zero, List.set_cons_succ, List.length_cons, List.length_nil, Nat.reduceAdd, AV.sh, AV.sh1, AV.sh0, AO.sh, List.map_cons, List.map_nil, Nat.zero_add, Nat.add_zero, setAll])
  | ((apply AOps.splitP; exact rfl; exact rfl) <;> intro h)
  | ((apply AOps.splitN; exact rfl; exact rfl) <;> intro h)
  | (apply w_move; exact rfl; exact rfl)
  | (apply w_assign; exact rfl; exact rfl)
  | apply AWp.seq
  | apply AWp.region
  | ((apply AWp.condP; exact rfl) <;> intro h)
  | ((apply AWp.condN; exact rfl) <;> intro h)
  | (apply AWp.condT; exact rfl)
  | (apply AWp.condF; exact rfl)
  | ((apply AWp.condB; exact rfl) <;> intro h)
  | apply AWp.block
  | apply AWp.ret
  | apply AWp.exit
  | apply AWp.skip
  | (apply AWp.regionQ; kernel_rfl; kernel_rfl)
  | (apply if_pos'; exact rfl)
  | (apply if_neg'; decide)
  | (apply w_skip; exact rfl)
  | (apply w_pickT; exact rfl; exact rfl; exact rfl)
  | (apply w_pickF; exact rfl; exact rfl; exact rfl)
  | (apply w_len; exact rfl; exact rfl; first | exact .ints _ | exact .intss _ | exact .sli rfl | exact .sls rfl | exact .slr rfl | exact .orow rfl | exact .nil)
  | ((first | apply w_bsr0 | apply w_bs0); iterate 1 exact rfl)
  | ((first | apply w_bsr1 | apply w_lss | apply w_leq | apply w_gtr | apply w_geq | apply w_eql | apply w_neq | apply w_add | apply w_sub | apply w_mul | apply w_idx | apply w_ld | apply w_fld | apply w_fa | apply w_extv | apply w_min | apply w_max | apply w_slhi | apply w_sllo | apply w_bs2); iterate 3 exact rfl)
  | (apply w_appr; exact rfl; exact rfl; exact rfl; exact rfl; exact rfl; exact rfl; exact rfl; rotate_left 1; simp only [Env.mp, List.map_cons, List.map_nil, List.set_cons_zero, List.set_cons_succ, AV.kill, AV.kill1, AO.kill, AV.rin, AV.rin1, AV.noRow, AV.noRow1, AO.via, reduceIte, Nat.reduceEqDiff, Nat.reduceLT, Env.up, Nat.zero_ne_one, Nat.one_ne_zero, Nat.reduceAdd, List.cons_append, List.nil_append]; rotate_left 1)
  | (apply w_callm (hown); (focus ((repeat (first | exact im_nil | refine im_cons rfl (.val _) ?_ | refine im_cons rfl (.ints _) ?_ | refine im_cons rfl (.intss _) ?_ | refine im_cons rfl (.sli rfl) ?_ | refine im_cons rfl (.sls rfl) ?_ | refine im_cons rfl (.orow rfl) ?_ | refine im_cons rfl (.osub rfl (by simp; omega)) ?_ | refine im_cons rfl (.nil) ?_ | refine im_cons rfl (.nils) ?_ | refine im_cons rfl (im_agg2 (.val _) (.ints _)) ?_ | refine im_cons rfl (im_agg2 (.val _) (.sli rfl)) ?_ | refine im_cons rfl (im_agg2 (.val _) (.nil)) ?_ | refine im_cons rfl (im_agg2 (.ints _) (.intss _)) ?_ | refine im_cons rfl (im_agg2 (.ints _) (.sls rfl)) ?_ | refine im_cons rfl (im_agg2 (.sli rfl) (.intss _)) ?_ | refine im_cons rfl (im_agg2 (.sli rfl) (.sls rfl)) ?_ | refine im_cons rfl (im_agg1 (.ints _)) ?_ | refine im_cons rfl (im_agg1 (.sli rfl)) ?_ | refine im_cons rfl (im_agg1 (.intss _)) ?_ | refine im_cons rfl (im_agg1 (.sls rfl)) ?_ | refine im_cons rfl (im_agg1 (.nil)) ?_ | refine im_cons rfl (im_agg1 (.nils)) ?_)); done)); rintro r os0 ⟨rfl, rfl⟩; try simp only [List.nil_append, List.cons_append, List.set_cons_zero, List.set_cons_succ, List.length_cons, List.length_nil, Nat.reduceAdd, AV.sh, AV.sh1, AV.sh0, AO.sh, List.map_cons, List.map_nil, Nat.zero_add, Nat.add_zero, setAll])
  | ((first | apply w_eqlb | apply w_neqb | apply w_idxs | apply w_lds | apply w_ext); iterate 3 exact rfl)
  | (apply w_rem; exact rfl; exact rfl; exact rfl; (focus (omega; done)); (focus (omega; done)))
  | (apply w_quo; exact rfl; exact rfl; exact rfl; (focus (omega; done)); (focus (omega; done)))
  | (apply w_remT; exact rfl; exact rfl; exact rfl)
  | (apply w_quoT; exact rfl; exact rfl; exact rfl)
  | ((first | apply w_not | apply w_neg | apply w_conv | apply w_build0 | apply w_bs1 | apply w_boxa); iterate 2 exact rfl)
  | (apply w_idxo; exact rfl; exact rfl; (first | exact .sli rfl | exact .sls rfl | exact .slr rfl); exact rfl)
  | ((first | apply w_idxr | apply w_ldr); iterate 4 exact rfl)
  | (apply w_ldo; iterate 4 exact rfl)
  | (apply w_ldls; iterate 4 exact rfl)
  | (apply w_ldrp; iterate 4 exact rfl)
  | (apply w_ldb; iterate 5 exact rfl)
  | (apply w_ldst; iterate 5 exact rfl)
  | ((first | apply w_sllh | apply w_stbi); iterate 4 exact rfl)
  | ((first | apply w_oslo | apply w_oshi | apply w_stbii); iterate 4 exact rfl)
  | (apply w_build1; exact rfl; exact rfl; (first | exact one_val rfl rfl | exact one_ints | exact one_intss | exact one_own rfl True.intro))
  | (apply w_build2; exact rfl; exact rfl; exact rfl; (first | exact one_val rfl rfl | exact one_ints | exact one_intss | exact one_own rfl True.intro); (first | exact one_val rfl rfl | exact one_ints | exact one_intss | exact one_own rfl True.intro))
  | (apply w_appn; exact rfl; exact rfl; (first | exact .ints _ | exact .sli rfl | exact .orow rfl | exact .nil | exact .osub rfl (by simp; omega)); exact rfl)
  | (apply w_app; exact rfl; exact rfl; exact rfl; exact rfl; (first | exact .ints _ | exact .sli rfl | exact .orow rfl | exact .nil | exact .osub rfl (by simp; omega)); rotate_left 1; simp only [Env.mp, List.map_cons, List.map_nil, List.set_cons_zero, List.set_cons_succ, AV.kill, AV.kill1, AO.kill, AV.noRow, AV.noRow1, AO.via, reduceIte, Nat.reduceEqDiff, Nat.reduceLT, Env.up, Nat.zero_ne_one, Nat.one_ne_zero, Nat.reduceAdd, List.cons_append, List.nil_append]; rotate_left 1)
  | (apply w_alst; iterate 2 exact rfl)
  | (apply w_alone; iterate 3 exact rfl)
  | (apply w_sti; exact rfl; exact rfl; rotate_left 1; exact rfl; rotate_left 2)
  | (apply w_stst; iterate 5 exact rfl)
  | (apply w_stbv; iterate 6 exact rfl)
  | (apply w_stbo; exact rfl; exact rfl; exact rfl; exact rfl; exact rfl; exact True.intro)
  | ((apply AOps.splitB; exact rfl; exact rfl) <;> intro h)
  | apply AllOf.nil
  | (apply AllOf.cons; exact rfl)
  | (apply AAny.take; exact rfl; exact rfl; kernel_rfl; kernel_rfl)
  | (apply AAny.all; exact rfl)
  | (apply AAny.done; exact rfl)
  | (apply inI_of <;> omega)
  | omega
  | (simp <;> omega))
  refine AWp.loop (ι := Nat) (fun n => ⟨40, [(1, .i k), (5, .optr 1 0), (6, .optr 2 0), (7, .own 3), (8, .i n)]⟩) (fun n => [.bx 26 [.intss f], .bx 26 [.intss g], .bx 26 [.val (.slice none 0 0)], .sls 52 2 (adL f k g n)]) (fun n => n ≤ g.length) (fun n => g.length - n) 0 (by omega) ⟨lee rfl (by (repeat (first | exact le_nil | refine le_eq rfl rfl ?_ | refine le_eq rfl (congrArg AV.i (by omega)) ?_))), by (repeat (first | exact lo_nil | refine lo_dead ?_ | refine lo_eq rfl ?_)), rfl, rfl⟩ ?_
  rintro n n0
  have inv := ad_gen hf hg hk0 n n0
  by_cases hn : n < g.length
  · have h1 := te_at hg hn
    have hmm := mulC hk0 h1.2.2.2
    have hput := l17Put_c (adL f k g n) (geti (gets g (n : Nat)) 0) (geti (gets g (n : Nat)) 1) (k * geti (gets g (n : Nat)) 2) (fun t ht => (inv.nz t ht).1) (by have := inv.len; omega) (by omega) (by omega) (by omega)
    repeat' (first
  | (apply AOps.nil; try simp only [List.nil_append, List.cons_append, List.set_cons_zero, List.set_cons_succ, List.length_cons, List.length_nil, Nat.reduceAdd, AV.sh, AV.sh1, AV.sh0, AO.sh, List.map_cons, List.map_nil, Nat.zero_add, Nat.add_zero, setAll])
  | ((apply AOps.splitP; exact rfl; exact rfl) <;> intro h)
  | ((apply AOps.splitN; exact rfl; exact rfl) <;> intro h)
  | (apply w_move; exact rfl; exact rfl)
  | (apply w_assign; exact rfl; exact rfl)
  | apply AWp.seq
  | apply AWp.region
  | ((apply AWp.condP; exact rfl) <;> intro h)
  | ((apply AWp.condN; exact rfl) <;> intro h)
  | (apply AWp.condT; exact rfl)
  | (apply AWp.condF; exact rfl)
  | ((apply AWp.condB; exact rfl) <;> intro h)
  | apply AWp.block
  | apply AWp.ret
  | apply AWp.exit
  | apply AWp.skip
  | (apply if_pos'; exact rfl)
  | (apply if_neg'; decide)
  | (apply w_skip; exact rfl)
  | (apply w_pickT; exact rfl; exact rfl; exact rfl)
  | (apply w_pickF; exact rfl; exact rfl; exact rfl)
  | (apply w_len; exact rfl; exact rfl; first | exact .ints _ | exact .intss _ | exact .sli rfl | exact .sls rfl | exact .slr rfl | exact .orow rfl | exact .nil)
  | omega
  | ((first | apply w_lss | apply w_leq | apply w_gtr | apply w_geq | apply w_eql | apply w_neq | apply w_add | apply w_sub | apply w_mul | apply w_idx | apply w_ld | apply w_fld | apply w_fa | apply w_extv | apply w_min | apply w_max | apply w_slhi | apply w_sllo | apply w_bs2); iterate 3 exact rfl)
  | ((first | apply w_eqlb | apply w_neqb | apply w_idxs | apply w_lds | apply w_ext); iterate 3 exact rfl)
  | (apply w_rem; exact rfl; exact rfl; exact rfl; (focus (omega; done)); (focus (omega; done)))
  | (apply w_quo; exact rfl; exact rfl; exact rfl; (focus (omega; done)); (focus (omega; done)))
  | (apply w_remT; exact rfl; exact rfl; exact rfl)
  | (apply w_quoT; exact rfl; exact rfl; exact rfl)
  | ((first | apply w_not | apply w_neg | apply w_conv | apply w_build0 | apply w_bs1 | apply w_boxa); iterate 2 exact rfl)
  | (apply w_idxo; exact rfl; exact rfl; (first | exact .sli rfl | exact .sls rfl | exact .slr rfl); exact rfl)
  | ((first | apply w_idxr | apply w_ldr); iterate 4 exact rfl)
  | (apply w_ldo; iterate 4 exact rfl)
  | (apply w_ldls; iterate 4 exact rfl)
  | (apply w_ldrp; iterate 4 exact rfl)
  | (apply w_ldb; iterate 5 exact rfl)
  | (apply w_ldst; iterate 5 exact rfl)
  | ((first | apply w_sllh | apply w_stbi); iterate 4 exact rfl)
  | ((first | apply w_oslo | apply w_oshi | apply w_stbii); iterate 4 exact rfl)
  | (apply w_build1; exact rfl; exact rfl; (first | exact one_val rfl rfl | exact one_ints | exact one_intss | exact one_own rfl True.intro))
  | (apply w_build2; exact rfl; exact rfl; exact rfl; (first | exact one_val rfl rfl | exact one_ints | exact one_intss | exact one_own rfl True.intro); (first | exact one_val rfl rfl | exact one_ints | exact one_intss | exact one_own rfl True.intro))
  | (apply w_bs0; iterate 1 exact rfl)
  | (apply w_appn; exact rfl; exact rfl; (first | exact .ints _ | exact .sli rfl | exact .orow rfl | exact .nil | exact .osub rfl (by simp; omega)); exact rfl)
  | (apply w_app; exact rfl; exact rfl; exact rfl; exact rfl; (first | exact .ints _ | exact .sli rfl | exact .orow rfl | exact .nil | exact .osub rfl (by simp; omega)); rotate_left 1; simp only [Env.mp, List.map_cons, List.map_nil, List.set_cons_zero, List.set_cons_succ, AV.kill, AV.kill1, AO.kill, AV.noRow, AV.noRow1, AO.via, reduceIte, Nat.reduceEqDiff, Nat.reduceLT, Env.up, Nat.zero_ne_one, Nat.one_ne_zero, Nat.reduceAdd, List.cons_append, List.nil_append]; rotate_left 1)
  | (apply w_alst; iterate 2 exact rfl)
  | (apply w_alone; iterate 3 exact rfl)
  | (apply w_sti; exact rfl; exact rfl; rotate_left 1; exact rfl; rotate_left 2)
  | (apply w_stst; iterate 5 exact rfl)
  | (apply w_stbv; iterate 6 exact rfl)
  | (apply w_stbo; exact rfl; exact rfl; exact rfl; exact rfl; exact rfl; exact True.intro)
  | ((apply AOps.splitB; exact rfl; exact rfl) <;> intro h)
  | apply AllOf.nil
  | (apply AllOf.cons; exact rfl)
  | (apply AAny.take; exact rfl; exact rfl; kernel_rfl; kernel_rfl)
  | (apply AAny.all; exact rfl)
  | (apply AAny.done; exact rfl)
  | (apply inI_of <;> omega)
  | omega
  | (simp <;> omega))
    refine AWp.regionG [] (by kernel_rfl) (envC := ⟨40, [(1, .i k), (5, .optr 1 0), (6, .optr 2 0), (7, .own 3), (8, .i n)]⟩) (osC := [.bx 26 [.intss f], .bx 26 [.intss g], .bx 26 [.val (.slice none 0 0)], .sls 52 2 (adL f k g (n + 1))]) rfl rfl ?_ ?_
    · repeat' (first
  | (apply AOps.nil; try simp only [List.nil_append, List.cons_append, List.set_cons_zero, List.set_cons_succ, List.length_cons, List.length_nil, Nat.reduceAdd, AV.sh, AV.sh1, AV.sh0, AO.sh, List.map_cons, List.map_nil, Nat.zero_add, Nat.add_zero, setAll])
  | ((apply AOps.splitP; exact rfl; exact rfl) <;> intro h)
  | ((apply AOps.splitN; exact rfl; exact rfl) <;> intro h)
  | (apply w_move; exact rfl; exact rfl)
  | (apply w_assign; exact rfl; exact rfl)
  | apply AWp.seq
  | apply AWp.region
  | ((apply AWp.condP; exact rfl) <;> intro h)
  | ((apply AWp.condN; exact rfl) <;> intro h)
  | (apply AWp.condT; exact rfl)
  | (apply AWp.condF; exact rfl)
  | ((apply AWp.condB; exact rfl) <;> intro h)
  | apply AWp.block
  | apply AWp.ret
  | apply AWp.exit
  | apply AWp.skip
  | (apply AWp.regionQ; kernel_rfl; kernel_rfl)
  | (apply if_pos'; exact rfl)
  | (apply if_neg'; decide)
  | (apply w_skip; exact rfl)
  | (apply w_pickT; exact rfl; exact rfl; exact rfl)
  | (apply w_pickF; exact rfl; exact rfl; exact rfl)
  | (apply w_len; exact rfl; exact rfl; first | exact .ints _ | exact .intss _ | exact .sli rfl | exact .sls rfl | exact .slr rfl | exact .orow rfl | exact .nil)
  | apply AllOfG.nil
  | (apply AllOfG.consQ; exact rfl; exact rfl)
  | (apply AllOfG.consS; exact rfl; exact rfl)
  | (apply AAnyG.takeW; exact rfl; exact rfl; kernel_rfl; kernel_rfl)
  | (apply AAnyG.takeL; exact rfl; exact rfl; kernel_rfl)
  | (apply AAnyG.all; exact rfl)
  | (apply AAnyG.done; exact rfl)
  | (apply w_callt 3 (hput); exact rfl; exact rfl; (focus ((repeat (first | exact imu_nil | refine imu_cons rfl (.val _) ?_ | refine imu_cons rfl (.ints _) ?_ | refine imu_cons rfl (.own rfl) ?_ | refine imu_cons rfl (.sli rfl (by decide)) ?_ | refine imu_cons rfl (.intss _) ?_ | refine imu_cons rfl (.sls rfl (by decide)) ?_ | refine imu_cons rfl (imu_agg2 (.val _) (.own rfl)) ?_ | refine imu_cons rfl (imu_agg2 (.own rfl) (.own rfl)) ?_ | refine imu_cons rfl (imu_agg1 (.own rfl)) ?_)); done)); rintro xss0 rfl; simp only [Env.mp, List.map_cons, List.map_nil, List.set_cons_zero, List.set_cons_succ, AV.kill, AV.kill1, AO.kill, AV.lose, AV.lose1, List.map_append, map_orow_kill, AV.noRow, AV.noRow1, AO.via, reduceIte, Nat.reduceEqDiff, Nat.reduceLT, Env.up, Nat.zero_ne_one, Nat.one_ne_zero, Nat.reduceAdd, List.cons_append, List.nil_append])
  | omega
  | ((first | apply w_lss | apply w_leq | apply w_gtr | apply w_geq | apply w_eql | apply w_neq | apply w_add | apply w_sub | apply w_mul | apply w_idx | apply w_ld | apply w_fld | apply w_fa | apply w_extv | apply w_min | apply w_max | apply w_slhi | apply w_sllo | apply w_bs2); iterate 3 exact rfl)
  | ((first | apply w_eqlb | apply w_neqb | apply w_idxs | apply w_lds | apply w_ext); iterate 3 exact rfl)
  | (apply w_rem; exact rfl; exact rfl; exact rfl; (focus (omega; done)); (focus (omega; done)))
  | (apply w_quo; exact rfl; exact rfl; exact rfl; (focus (omega; done)); (focus (omega; done)))
  | (apply w_remT; exact rfl; exact rfl; exact rfl)
  | (apply w_quoT; exact rfl; exact rfl; exact rfl)
  | ((first | apply w_not | apply w_neg | apply w_conv | apply w_build0 | apply w_bs1 | apply w_boxa); iterate 2 exact rfl)
  | (apply w_idxo; exact rfl; exact rfl; (first | exact .sli rfl | exact .sls rfl | exact .slr rfl); exact rfl)
  | ((first | apply w_idxr | apply w_ldr); iterate 4 exact rfl)
  | (apply w_ldo; iterate 4 exact rfl)
  | (apply w_ldls; iterate 4 exact rfl)
  | (apply w_ldrp; iterate 4 exact rfl)
  | (apply w_ldb; iterate 5 exact rfl)
  | (apply w_ldst; iterate 5 exact rfl)
  | ((first | apply w_sllh | apply w_stbi); iterate 4 exact rfl)
  | ((first | apply w_oslo | apply w_oshi | apply w_stbii); iterate 4 exact rfl)
  | (apply w_build1; exact rfl; exact rfl; (first | exact one_val rfl rfl | exact one_ints | exact one_intss | exact one_own rfl True.intro))
  | (apply w_build2; exact rfl; exact rfl; exact rfl; (first | exact one_val rfl rfl | exact one_ints | exact one_intss | exact one_own rfl True.intro); (first | exact one_val rfl rfl | exact one_ints | exact one_intss | exact one_own rfl True.intro))
  | (apply w_bs0; iterate 1 exact rfl)
  | (apply w_appn; exact rfl; exact rfl; (first | exact .ints _ | exact .sli rfl | exact .orow rfl | exact .nil | exact .osub rfl (by simp; omega)); exact rfl)
  | (apply w_app; exact rfl; exact rfl; exact rfl; exact rfl; (first | exact .ints _ | exact .sli rfl | exact .orow rfl | exact .nil | exact .osub rfl (by simp; omega)); rotate_left 1; simp only [Env.mp, List.map_cons, List.map_nil, List.set_cons_zero, List.set_cons_succ, AV.kill, AV.kill1, AO.kill, AV.noRow, AV.noRow1, AO.via, reduceIte, Nat.reduceEqDiff, Nat.reduceLT, Env.up, Nat.zero_ne_one, Nat.one_ne_zero, Nat.reduceAdd, List.cons_append, List.nil_append]; rotate_left 1)
  | (apply w_alst; iterate 2 exact rfl)
  | (apply w_alone; iterate 3 exact rfl)
  | (apply w_sti; exact rfl; exact rfl; rotate_left 1; exact rfl; rotate_left 2)
  | (apply w_stst; iterate 5 exact rfl)
  | (apply w_stbv; iterate 6 exact rfl)
  | (apply w_stbo; exact rfl; exact rfl; exact rfl; exact rfl; exact rfl; exact True.intro)
  | ((apply AOps.splitB; exact rfl; exact rfl) <;> intro h)
  | apply AllOf.nil
  | (apply AllOf.cons; exact rfl)
  | (apply AAny.take; exact rfl; exact rfl; kernel_rfl; kernel_rfl)
  | (apply AAny.all; exact rfl)
  | (apply AAny.done; exact rfl)
  | (apply inI_of <;> omega)
  | omega
  | (simp <;> omega))
      all_goals (first | (apply Or.inl; refine ⟨lee rfl ?_, ?_, rfl, rfl⟩; (focus ((repeat (first | exact le_nil | refine le_eq rfl rfl ?_ | (refine le_eq rfl (congrArg AV.i ?_) ?_; (focus (omega; done))))); done)); (focus ((repeat (first | exact lo_nil | refine lo_dead ?_ | refine lo_eq rfl ?_)); done))))
    repeat' (first
  | (apply AOps.nil; try simp only [List.nil_append, List.cons_append, List.set_cons_zero, List.set_cons_succ, List.length_cons, List.length_nil, Nat.reduceAdd, AV.sh, AV.sh1, AV.sh0, AO.sh, List.map_cons, List.map_nil, Nat.zero_add, Nat.add_zero, setAll])
  | ((apply AOps.splitP; exact rfl; exact rfl) <;> intro h)
  | ((apply AOps.splitN; exact rfl; exact rfl) <;> intro h)
  | (apply w_move; exact rfl; exact rfl)
  | (apply w_assign; exact rfl; exact rfl)
  | apply AWp.seq
  | apply AWp.region
  | ((apply AWp.condP; exact rfl) <;> intro h)
  | ((apply AWp.condN; exact rfl) <;> intro h)
  | (apply AWp.condT; exact rfl)
  | (apply AWp.condF; exact rfl)
  | ((apply AWp.condB; exact rfl) <;> intro h)
  | apply AWp.block
  | apply AWp.ret
  | apply AWp.exit
  | apply AWp.skip
  | (apply if_pos'; exact rfl)
  | (apply if_neg'; decide)
  | (apply w_skip; exact rfl)
  | (apply w_pickT; exact rfl; exact rfl; exact rfl)
  | (apply w_pickF; exact rfl; exact rfl; exact rfl)
  | (apply w_len; exact rfl; exact rfl; first | exact .ints _ | exact .intss _ | exact .sli rfl | exact .sls rfl | exact .slr rfl | exact .orow rfl | exact .nil)
  | ((first | apply w_lss | apply w_leq | apply w_gtr | apply w_geq | apply w_eql | apply w_neq | apply w_add | apply w_sub | apply w_mul | apply w_idx | apply w_ld | apply w_fld | apply w_fa | apply w_extv | apply w_min | apply w_max | apply w_slhi | apply w_sllo | apply w_bs2); iterate 3 exact rfl)
  | ((first | apply w_eqlb | apply w_neqb | apply w_idxs | apply w_lds | apply w_ext); iterate 3 exact rfl)
  | (apply w_rem; exact rfl; exact rfl; exact rfl; (focus (omega; done)); (focus (omega; done)))
  | (apply w_quo; exact rfl; exact rfl; exact rfl; (focus (omega; done)); (focus (omega; done)))
  | (apply w_remT; exact rfl; exact rfl; exact rfl)
  | (apply w_quoT; exact rfl; exact rfl; exact rfl)
  | ((first | apply w_not | apply w_neg | apply w_conv | apply w_build0 | apply w_bs1 | apply w_boxa); iterate 2 exact rfl)
  | (apply w_idxo; exact rfl; exact rfl; (first | exact .sli rfl | exact .sls rfl | exact .slr rfl); exact rfl)
  | ((first | apply w_idxr | apply w_ldr); iterate 4 exact rfl)
  | (apply w_ldo; iterate 4 exact rfl)
  | (apply w_ldls; iterate 4 exact rfl)
  | (apply w_ldrp; iterate 4 exact rfl)
  | (apply w_ldb; iterate 5 exact rfl)
  | (apply w_ldst; iterate 5 exact rfl)
  | ((first | apply w_sllh | apply w_stbi); iterate 4 exact rfl)
  | ((first | apply w_oslo | apply w_oshi | apply w_stbii); iterate 4 exact rfl)
  | (apply w_build1; exact rfl; exact rfl; (first | exact one_val rfl rfl | exact one_ints | exact one_intss | exact one_own rfl True.intro))
  | (apply w_build2; exact rfl; exact rfl; exact rfl; (first | exact one_val rfl rfl | exact one_ints | exact one_intss | exact one_own rfl True.intro); (first | exact one_val rfl rfl | exact one_ints | exact one_intss | exact one_own rfl True.intro))
  | (apply w_bs0; iterate 1 exact rfl)
  | (apply w_appn; exact rfl; exact rfl; (first | exact .ints _ | exact .sli rfl | exact .orow rfl | exact .nil | exact .osub rfl (by simp; omega)); exact rfl)
  | (apply w_app; exact rfl; exact rfl; exact rfl; exact rfl; (first | exact .ints _ | exact .sli rfl | exact .orow rfl | exact .nil | exact .osub rfl (by simp; omega)); rotate_left 1; simp only [Env.mp, List.map_cons, List.map_nil, List.set_cons_zero, List.set_cons_succ, AV.kill, AV.kill1, AO.kill, AV.noRow, AV.noRow1, AO.via, reduceIte, Nat.reduceEqDiff, Nat.reduceLT, Env.up, Nat.zero_ne_one, Nat.one_ne_zero, Nat.reduceAdd, List.cons_append, List.nil_append]; rotate_left 1)
  | (apply w_alst; iterate 2 exact rfl)
  | (apply w_alone; iterate 3 exact rfl)
  | (apply w_sti; exact rfl; exact rfl; rotate_left 1; exact rfl; rotate_left 2)
  | (apply w_stst; iterate 5 exact rfl)
  | (apply w_stbv; iterate 6 exact rfl)
  | (apply w_stbo; exact rfl; exact rfl; exact rfl; exact rfl; exact rfl; exact True.intro)
  | ((apply AOps.splitB; exact rfl; exact rfl) <;> intro h)
  | apply AllOf.nil
  | (apply AllOf.cons; exact rfl)
  | (apply AAny.take; exact rfl; exact rfl; kernel_rfl; kernel_rfl)
  | (apply AAny.all; exact rfl)
  | (apply AAny.done; exact rfl)
  | (apply inI_of <;> omega)
  | omega
  | (simp <;> omega))
    exact ⟨n + 1, hn, by omega, ⟨lee rfl (by (repeat (first | exact le_nil | refine le_eq rfl rfl ?_ | refine le_eq rfl (congrArg AV.i (by omega)) ?_))), by (repeat (first | exact lo_nil | refine lo_dead ?_ | refine lo_eq rfl ?_)), rfl, rfl⟩⟩
  · have e : n = g.length := by omega
    subst e
    repeat' (first
  | (apply AOps.nil; try simp only [List.nil_append, List.cons_append, List.set_cons_zero, List.set_cons_succ, List.length_cons, List.length_nil, Nat.reduceAdd, AV.sh, AV.sh1, AV.sh0, AO.sh, List.map_cons, List.map_nil, Nat.zero_add, Nat.add_zero, setAll])
  | ((apply AOps.splitP; exact rfl; exact rfl) <;> intro h)
  | ((apply AOps.splitN; exact rfl; exact rfl) <;> intro h)
  | (apply w_move; exact rfl; exact rfl)
  | (apply w_assign; exact rfl; exact rfl)
  | apply AWp.seq
  | apply AWp.region
  | ((apply AWp.condP; exact rfl) <;> intro h)
  | ((apply AWp.condN; exact rfl) <;> intro h)
  | (apply AWp.condT; exact rfl)
  | (apply AWp.condF; exact rfl)
  | ((apply AWp.condB; exact rfl) <;> intro h)
  | apply AWp.block
  | apply AWp.ret
  | apply AWp.exit
  | apply AWp.skip
  | (apply if_pos'; exact rfl)
  | (apply if_neg'; decide)
  | (apply w_skip; exact rfl)
  | (apply w_pickT; exact rfl; exact rfl; exact rfl)
  | (apply w_pickF; exact rfl; exact rfl; exact rfl)
  | (apply w_len; exact rfl; exact rfl; first | exact .ints _ | exact .intss _ | exact .sli rfl | exact .sls rfl | exact .slr rfl | exact .orow rfl | exact .nil)
  | omega
  | ((first | apply w_lss | apply w_leq | apply w_gtr | apply w_geq | apply w_eql | apply w_neq | apply w_add | apply w_sub | apply w_mul | apply w_idx | apply w_ld | apply w_fld | apply w_fa | apply w_extv | apply w_min | apply w_max | apply w_slhi | apply w_sllo | apply w_bs2); iterate 3 exact rfl)
  | ((first | apply w_eqlb | apply w_neqb | apply w_idxs | apply w_lds | apply w_ext); iterate 3 exact rfl)
  | (apply w_rem; exact rfl; exact rfl; exact rfl; (focus (omega; done)); (focus (omega; done)))
  | (apply w_quo; exact rfl; exact rfl; exact rfl; (focus (omega; done)); (focus (omega; done)))
  | (apply w_remT; exact rfl; exact rfl; exact rfl)
  | (apply w_quoT; exact rfl; exact rfl; exact rfl)
  | ((first | apply w_not | apply w_neg | apply w_conv | apply w_build0 | apply w_bs1 | apply w_boxa); iterate 2 exact rfl)
  | (apply w_idxo; exact rfl; exact rfl; (first | exact .sli rfl | exact .sls rfl | exact .slr rfl); exact rfl)
  | ((first | apply w_idxr | apply w_ldr); iterate 4 exact rfl)
  | (apply w_ldo; iterate 4 exact rfl)
  | (apply w_ldls; iterate 4 exact rfl)
  | (apply w_ldrp; iterate 4 exact rfl)
  | (apply w_ldb; iterate 5 exact rfl)
  | (apply w_ldst; iterate 5 exact rfl)
  | ((first | apply w_sllh | apply w_stbi); iterate 4 exact rfl)
  | ((first | apply w_oslo | apply w_oshi | apply w_stbii); iterate 4 exact rfl)
  | (apply w_build1; exact rfl; exact rfl; (first | exact one_val rfl rfl | exact one_ints | exact one_intss | exact one_own rfl True.intro))
  | (apply w_build2; exact rfl; exact rfl; exact rfl; (first | exact one_val rfl rfl | exact one_ints | exact one_intss | exact one_own rfl True.intro); (first | exact one_val rfl rfl | exact one_ints | exact one_intss | exact one_own rfl True.intro))
  | (apply w_bs0; iterate 1 exact rfl)
  | (apply w_appn; exact rfl; exact rfl; (first | exact .ints _ | exact .sli rfl | exact .orow rfl | exact .nil | exact .osub rfl (by simp; omega)); exact rfl)
  | (apply w_app; exact rfl; exact rfl; exact rfl; exact rfl; (first | exact .ints _ | exact .sli rfl | exact .orow rfl | exact .nil | exact .osub rfl (by simp; omega)); rotate_left 1; simp only [Env.mp, List.map_cons, List.map_nil, List.set_cons_zero, List.set_cons_succ, AV.kill, AV.kill1, AO.kill, AV.noRow, AV.noRow1, AO.via, reduceIte, Nat.reduceEqDiff, Nat.reduceLT, Env.up, Nat.zero_ne_one, Nat.one_ne_zero, Nat.reduceAdd, List.cons_append, List.nil_append]; rotate_left 1)
  | (apply w_alst; iterate 2 exact rfl)
  | (apply w_alone; iterate 3 exact rfl)
  | (apply w_sti; exact rfl; exact rfl; rotate_left 1; exact rfl; rotate_left 2)
  | (apply w_stst; iterate 5 exact rfl)
  | (apply w_stbv; iterate 6 exact rfl)
  | (apply w_stbo; exact rfl; exact rfl; exact rfl; exact rfl; exact rfl; exact True.intro)
  | ((apply AOps.splitB; exact rfl; exact rfl) <;> intro h)
  | apply AllOf.nil
  | (apply AllOf.cons; exact rfl)
  | (apply AAny.take; exact rfl; exact rfl; kernel_rfl; kernel_rfl)
  | (apply AAny.all; exact rfl)
  | (apply AAny.done; exact rfl)
  | (apply inI_of <;> omega)
  | omega
  | (simp <;> omega))
    exact ⟨_, _, _, .c1 Try.results31 rfl rfl rfl, .agg1 (.sls rfl), rfl, rfl⟩
end Go.Proofs.Ytkickbnahajpoaa
/-
  Linear changes: in the program. No condition.
-/
namespace Go.Proofs.Ytkickbnahajpoaa
open Go Go.RowKit
attribute [local irreducible] AWp AOps ResIs Ret1 QOp LOp COp AFnV AFn Imms LeE LeO
set_option maxHeartbeats 1000000
set_option linter.unusedSimpArgs false
set_option linter.unusedVariables false

theorem inField_c (n : Int) (hn : -100000000000 ≤ n ∧ n ≤ 100000000000) : AFnV Try.prog 41 [.i n] (.int .i64 (n % 55441)) := by
  have h1 : (0 ≤ n ∧ n.tmod 55441 = n % 55441) ∨ (n < 0 ∧ n.tmod 55441 = -((-n) % 55441)) := by
    rcases Int.lt_or_le n 0 with h | h
    · have := Int.tmod_eq_emod_of_nonneg (a := -n) (b := 55441) (by omega)
      rw [Int.neg_tmod] at this
      exact .inr ⟨h, by omega⟩
    · exact .inl ⟨h, Int.tmod_eq_emod_of_nonneg h⟩
  (refine AFnV.start Try.func41 Try.ntmps41 rfl (by kernel_rfl) fun hk => ?_; simp only [Env.start, enumF, List.length_cons, List.length_nil, Nat.reduceAdd, Nat.reduceSub, List.cons_append, List.nil_append])
  repeat' (first
  | (apply AOps.nil; try simp only [List.nil_append, List.cons_append, List.set_cons_zero, List.set_cons_succ, List.length_cons, List.length_nil, Nat.reduceAdd, AV.sh, AV.sh1, AV.sh0, AO.sh, List.map_cons, List.map_nil, Nat.zero_add, Nat.add_zero, setAll])
  | ((apply AOps.splitP; exact rfl; exact rfl) <;> intro h)
  | ((apply AOps.splitN; exact rfl; exact rfl) <;> intro h)
  | (apply w_move; exact rfl; exact rfl)
  | (apply w_assign; exact rfl; exact rfl)
  | apply AWp.seq
  | apply AWp.region
  | ((apply AWp.condP; exact rfl) <;> intro h)
  | ((apply AWp.condN; exact rfl) <;> intro h)
  | (apply AWp.condT; exact rfl)
  | (apply AWp.condF; exact rfl)
  | ((apply AWp.condB; exact rfl) <;> intro h)
  | apply AWp.block
  | apply AWp.ret
  | apply AWp.exit
  | apply AWp.skip
  | (apply AWp.regionQ; kernel_rfl; kernel_rfl)
  | (apply if_pos'; exact rfl)
  | (apply if_neg'; decide)
  | (apply w_skip; exact rfl)
  | (apply w_pickT; exact rfl; exact rfl; exact rfl)
  | (apply w_pickF; exact rfl; exact rfl; exact rfl)
  | (apply w_len; exact rfl; exact rfl; first | exact .ints _ | exact .intss _ | exact .sli rfl | exact .sls rfl | exact .slr rfl | exact .orow rfl | exact .nil)
  | omega
  | ((first | apply w_lss | apply w_leq | apply w_gtr | apply w_geq | apply w_eql | apply w_neq | apply w_add | apply w_sub | apply w_mul | apply w_idx | apply w_ld | apply w_fld | apply w_fa | apply w_extv | apply w_min | apply w_max | apply w_slhi | apply w_sllo | apply w_bs2); iterate 3 exact rfl)
  | ((first | apply w_eqlb | apply w_neqb | apply w_idxs | apply w_lds | apply w_ext); iterate 3 exact rfl)
  | (apply w_rem; exact rfl; exact rfl; exact rfl; (focus (omega; done)); (focus (omega; done)))
  | (apply w_quo; exact rfl; exact rfl; exact rfl; (focus (omega; done)); (focus (omega; done)))
  | (apply w_remT; exact rfl; exact rfl; exact rfl)
  | (apply w_quoT; exact rfl; exact rfl; exact rfl)
  | ((first | apply w_not | apply w_neg | apply w_conv | apply w_build0 | apply w_bs1 | apply w_boxa); iterate 2 exact rfl)
  | (apply w_idxo; exact rfl; exact rfl; (first | exact .sli rfl | exact .sls rfl | exact .slr rfl); exact rfl)
  | ((first | apply w_idxr | apply w_ldr); iterate 4 exact rfl)
  | (apply w_ldo; iterate 4 exact rfl)
  | (apply w_ldls; iterate 4 exact rfl)
  | (apply w_ldrp; iterate 4 exact rfl)
  | (apply w_ldb; iterate 5 exact rfl)
  | (apply w_ldst; iterate 5 exact rfl)
  | ((first | apply w_sllh | apply w_stbi); iterate 4 exact rfl)
  | ((first | apply w_oslo | apply w_oshi | apply w_stbii); iterate 4 exact rfl)
  | (apply w_build1; exact rfl; exact rfl; (first | exact one_val rfl rfl | exact one_ints | exact one_intss | exact one_own rfl True.intro))
  | (apply w_build2; exact rfl; exact rfl; exact rfl; (first | exact one_val rfl rfl | exact one_ints | exact one_intss | exact one_own rfl True.intro); (first | exact one_val rfl rfl | exact one_ints | exact one_intss | exact one_own rfl True.intro))
  | (apply w_bs0; iterate 1 exact rfl)
  | (apply w_appn; exact rfl; exact rfl; (first | exact .ints _ | exact .sli rfl | exact .orow rfl | exact .nil | exact .osub rfl (by simp; omega)); exact rfl)
  | (apply w_app; exact rfl; exact rfl; exact rfl; exact rfl; (first | exact .ints _ | exact .sli rfl | exact .orow rfl | exact .nil | exact .osub rfl (by simp; omega)); rotate_left 1; simp only [Env.mp, List.map_cons, List.map_nil, List.set_cons_zero, List.set_cons_succ, AV.kill, AV.kill1, AO.kill, AV.noRow, AV.noRow1, AO.via, reduceIte, Nat.reduceEqDiff, Nat.reduceLT, Env.up, Nat.zero_ne_one, Nat.one_ne_zero, Nat.reduceAdd, List.cons_append, List.nil_append]; rotate_left 1)
  | (apply w_alst; iterate 2 exact rfl)
  | (apply w_alone; iterate 3 exact rfl)
  | (apply w_sti; exact rfl; exact rfl; rotate_left 1; exact rfl; rotate_left 2)
  | (apply w_stst; iterate 5 exact rfl)
  | (apply w_stbv; iterate 6 exact rfl)
  | (apply w_stbo; exact rfl; exact rfl; exact rfl; exact rfl; exact rfl; exact True.intro)
  | ((apply AOps.splitB; exact rfl; exact rfl) <;> intro h)
  | apply AllOf.nil
  | (apply AllOf.cons; exact rfl)
  | (apply AAny.take; exact rfl; exact rfl; kernel_rfl; kernel_rfl)
  | (apply AAny.all; exact rfl)
  | (apply AAny.done; exact rfl)
  | (apply inI_of <;> omega)
  | omega
  | (simp <;> omega))
  · refine .int Try.results41 rfl ?_
    have : n.tmod 55441 + 55441 = n % 55441 := by omega
    rw [this]
  · refine .int Try.results41 rfl ?_
    have : n.tmod 55441 = n % 55441 := by omega
    rw [this]

/-! ### What a linear change is -/
def t0 (f : List (List Int)) (j : Nat) : Nat := (geti (gets f (j : Nat)) 0).toNat
def t1 (f : List (List Int)) (j : Nat) : Nat := (geti (gets f (j : Nat)) 1).toNat
def lcT (f : List (List Int)) (a b c d : Int) (u v : Int) (j : Nat) : Int := geti (gets f (j : Nat)) 2 * itF c d (pwF a b (t0 f j)) (t1 f j) u v
def lcF (f : List (List Int)) (a b c d : Int) (i : Nat) (u v : Int) : Int := sumL (lcT f a b c d u v) (List.range i)
/-- A map that is being filled, its length aside. -/
structure MuJ (B : Int) (M : Trs) (S : Int → Int → Int) : Prop where
  keys : KeysN M
  co : CoOk M
  bd : Bd B M
  eq : ∀ a b, lookM M a b % 55441 = S a b % 55441
theorem muj_nil {B : Int} : MuJ B [] (fun _ _ => 0) := ⟨List.Pairwise.nil, fun _ h => (by cases h), fun _ h => (by cases h), fun _ _ => rfl⟩
theorem muj_add {B : Int} {M : Trs} {S : Int → Int → Int} (h : MuJ B M S) {i j c : Int} (hi : 0 ≤ i ∧ i ≤ B) (hj : 0 ≤ j ∧ j ≤ B) {S' : Int → Int → Int} (hS : ∀ a b, S' a b % 55441 = (S a b + (if i = a ∧ j = b then c else 0)) % 55441) : MuJ B (addS M i j c) S' where
  keys := keys_add h.keys _ _ _
  co := co_add h.co _ _ _
  bd := fun x hx => by
    rcases mem_putM x hx with h1 | rfl
    · exact h.bd x h1
    · exact ⟨hi, hj⟩
  eq := fun a b => by
    rw [look_add, hS]
    have h1 := h.eq a b
    by_cases e : a = i ∧ b = j
    · rw [if_pos e, if_pos ⟨e.1.symm, e.2.symm⟩, ← e.1, ← e.2]; omega
    · rw [if_neg e, if_neg (fun e' => e ⟨e'.1.symm, e'.2.symm⟩)]; omega
theorem muj_congr {B : Int} {M : Trs} {S S' : Int → Int → Int} (h : MuJ B M S) (hS : ∀ a b, S a b % 55441 = S' a b % 55441) : MuJ B M S' := ⟨h.keys, h.co, h.bd, fun a b => (h.eq a b).trans (hS a b)⟩
theorem muj_val {B : Int} {M : Trs} {S : Int → Int → Int} (h : MuJ B M S) (a b : Int) : lookM M a b = S a b % 55441 := by
  have := h.eq a b
  have := lookM_ok h.co a b
  omega
/-- The number of entries. -/
theorem keys_len {B : Nat} {M : Trs} (hK : KeysN M) (hB : InB B M) : M.length ≤ B * B := by
  have hnd : (M.map fun t => t.1.toNat * B + t.2.1.toNat).Nodup := by
    unfold List.Nodup
    rw [List.pairwise_map]
    refine List.Pairwise.imp_of_mem (fun {x y} hx hy hxy => ?_) hK
    have h1 := hB x hx
    have h2 := hB y hy
    intro e
    have e1 : (x.1.toNat * B + x.2.1.toNat) / B = x.1.toNat := by rw [Nat.mul_comm, Nat.mul_add_div (by omega), Nat.div_eq_of_lt (by omega)]; rfl
    have e2 : (y.1.toNat * B + y.2.1.toNat) / B = y.1.toNat := by rw [Nat.mul_comm, Nat.mul_add_div (by omega), Nat.div_eq_of_lt (by omega)]; rfl
    rw [e, e2] at e1
    rw [e1] at e
    exact hxy ⟨by omega, by omega⟩
  have := done_len hnd (n := B * B) (fun i hi => by
    obtain ⟨t, ht, rfl⟩ := List.mem_map.1 hi
    have h1 := hB t ht
    have h2 : (t.1.toNat + 1) * B ≤ B * B := Nat.mul_le_mul_right _ (by omega)
    rw [Nat.add_mul] at h2
    omega)
  simpa using this
end Go.Proofs.Ytkickbnahajpoaa
/-
  Linear changes: in the reference. No condition.
-/
namespace Go.Proofs.Ytkickbnahajpoaa
open Go Go.RowKit
attribute [local irreducible] AWp AOps ResIs Ret1 QOp LOp COp AFnV AFn Imms LeE LeO
set_option maxHeartbeats 1000000
set_option linter.unusedSimpArgs false
set_option linter.unusedVariables false

theorem putNil_c (i j c : Int) (hi : 0 ≤ i ∧ i ≤ 100000) (hj : 0 ≤ j ∧ j ≤ 100000) (hc : 0 ≤ c ∧ c ≤ 1000000000000000) :
    AFn Try.prog 40 [.val (.slice none 0 0), .i i, .i j, .i c] (fun r os => ∃ xss, xss = putT [] i j (c % 55441) ∧ r = .own 0 ∧ os = [.sls 52 2 xss]) :=
  (l17Put_c [] i j c (fun _ h => by cases h) (by simp) hi hj hc).atNil (fun a ha => by simp at ha; rcases ha with rfl | rfl | rfl <;> exact ⟨_, rfl⟩)

/-- The form a x + b y as terms. -/
def frm (a b : Int) : List (List Int) := putT (putT [] 1 0 (a % 55441)) 0 1 (b % 55441)
/-- A constant times n times the form. -/
def ptL (z : Int) (F : List (List Int)) (p : List (List Int)) : Nat → List (List Int)
  | 0 => p
  | n + 1 => tmL (ptL z F p n) F (ptL z F p n).length

/-- The terms of z (a x + b y)^m (c x + d y)^n, as the reference lays them. -/
def prtL (a b c d z : Int) (m n : Nat) : List (List Int) := ptL 0 (frm c d) (ptL 0 (frm a b) [[0, 0, z]] m) n
/-- The sum of the first i of these. -/
def lcL (f : List (List Int)) (a b c d : Int) : Nat → List (List Int)
  | 0 => []
  | i + 1 => adL (lcL f a b c d i) 1 (prtL a b c d (geti (gets f (i : Nat)) 2) (t0 f i) (t1 f i)) (prtL a b c d (geti (gets f (i : Nat)) 2) (t0 f i) (t1 f i)).length

theorem frm_eq {c d : Int} (hc : 0 ≤ c ∧ c ≤ 55440) (hd : 0 ≤ d ∧ d ≤ 55440) : frm c d = (if d = 0 then [] else [[0, 1, d]]) ++ (if c = 0 then [] else [[1, 0, c]]) := by
  unfold frm
  rw [show c % 55441 = c by omega, show d % 55441 = d by omega, putT_nil]
  by_cases h : c = 0
  · rw [if_pos h, putT_nil, List.append_nil]
  · rw [if_neg h, putT_nbef]
    · have e0 : geti [1, 0, c] 0 = 1 := rfl
      rw [e0, if_neg (by omega)]
      by_cases h2 : d = 0
      · rw [if_pos h2, if_pos h2]; rfl
      · rw [if_neg h2, if_neg h2]; rfl
    · unfold bef
      have e0 : geti [1, 0, c] 0 = 1 := rfl
      have e1 : geti [1, 0, c] 1 = 0 := rfl
      rw [e0, e1]; omega
theorem conv_frm {L : Trs} (hL : KeysN L) {c d : Int} (hc : 0 ≤ c ∧ c ≤ 55440) (hd : 0 ≤ d ∧ d ≤ 55440) (u v : Int) : convP L ((frm c d).map toT) u v % 55441 = tF c d (lookM L) u v := by
  rw [conv_at hL, frm_eq hc hd]
  have e1 : toT [0, 1, d] = (0, 1, d) := rfl
  have e2 : toT [1, 0, c] = (1, 0, c) := rfl
  unfold tF
  by_cases h : d = 0
  · by_cases h2 : c = 0
    · subst h; subst h2; simp [sumE]
    · subst h
      simp only [if_true, if_neg h2, List.nil_append, List.map_cons, List.map_nil, e2, sumE, Int.sub_zero, Int.mul_zero, Int.add_zero]
      omega
  · by_cases h2 : c = 0
    · subst h2
      simp only [if_true, if_neg h, List.append_nil, List.map_cons, List.map_nil, e1, sumE, Int.sub_zero, Int.mul_zero, Int.add_zero, Int.zero_add]
      omega
    · simp only [if_neg h, if_neg h2, List.cons_append, List.nil_append, List.map_cons, List.map_nil, e1, e2, sumE, Int.sub_zero, Int.add_zero]
      omega

/-- What is said of a part: homogeneous of degree k. -/
structure PtI (k : Nat) (p : List (List Int)) (F : Int → Int → Int) : Prop where
  srt : Srt p
  nz : TNz p
  eq : ∀ u v, cof p u v = F u v % 55441
  deg : ∀ u v, F u v ≠ 0 → 0 ≤ u ∧ 0 ≤ v ∧ u + v = k
theorem PtI.at {k : Nat} {p : List (List Int)} {F : Int → Int → Int} (h : PtI k p F) : ∀ t ∈ p, 0 ≤ geti t 0 ∧ 0 ≤ geti t 1 ∧ geti t 0 + geti t 1 = k := fun t ht => by
  have h1 := cof_mem (srt_key h.srt) (fun x hx => by have := (h.nz x hx).2; omega) t ht rfl rfl
  refine h.deg _ _ fun e => ?_
  have h2 := h.eq (geti t 0) (geti t 1)
  rw [e, h1] at h2
  have := (h.nz t ht).2
  simp at h2
  omega
theorem PtI.te {k : Nat} {p : List (List Int)} {F : Int → Int → Int} (h : PtI k p F) (hk : k ≤ 16) : Te p ∧ p.length ≤ 153 := by
  refine ⟨fun t ht => ?_, srt_len h.srt fun t ht => by have := h.at t ht; omega⟩
  have h1 := h.at t ht
  have h2 := (h.nz t ht).1
  unfold TOk at h2
  omega
theorem frm_te {c d : Int} (hc : 0 ≤ c ∧ c ≤ 55440) (hd : 0 ≤ d ∧ d ≤ 55440) : Te (frm c d) ∧ (frm c d).length ≤ 2 := by
  rw [frm_eq hc hd]
  refine ⟨fun t ht => ?_, by split <;> split <;> simp⟩
  have g1 : geti [0, 1, d] 0 = 0 ∧ geti [0, 1, d] 1 = 1 ∧ geti [0, 1, d] 2 = d := ⟨rfl, rfl, rfl⟩
  have g2 : geti [1, 0, c] 0 = 1 ∧ geti [1, 0, c] 1 = 0 ∧ geti [1, 0, c] 2 = c := ⟨rfl, rfl, rfl⟩
  rcases List.mem_append.1 ht with h | h
  · split at h
    · simp at h
    · simp only [List.mem_singleton] at h
      subst h
      exact ⟨rfl, by omega, by omega, by omega⟩
  · split at h
    · simp at h
    · simp only [List.mem_singleton] at h
      subst h
      exact ⟨rfl, by omega, by omega, by omega⟩
theorem pt_step {k : Nat} {p : List (List Int)} {F : Int → Int → Int} (h : PtI k p F) (hk : k ≤ 16) {c d : Int} (hc : 0 ≤ c ∧ c ≤ 55440) (hd : 0 ≤ d ∧ d ≤ 55440) : PtI (k + 1) (tmL p (frm c d) p.length) (tF c d F) := by
  have ht := tmL_all (h.te hk).1 (frm_te hc hd).1
  refine ⟨ht.srt, ht.nz, fun u v => ?_, fun u v hne => ?_⟩
  · rw [ht.eq, conv_frm (keys_toT h.srt) hc hd, tF_idem]
    refine tF_mod c d (fun x y => ?_) u v
    rw [look_toT, h.eq, Int.emod_emod_of_dvd _ (Int.dvd_refl _)]
  · have := it_deg c d (k := (k : Int)) h.deg 1 u v hne
    omega
theorem pt_all {z : Int} {c d : Int} (hc : 0 ≤ c ∧ c ≤ 55440) (hd : 0 ≤ d ∧ d ≤ 55440) {k : Nat} {p : List (List Int)} {F : Int → Int → Int} (h : PtI k p F) : ∀ n, k + n ≤ 17 → PtI (k + n) (ptL z (frm c d) p n) (itF c d F n)
  | 0, _ => h
  | n + 1, hn => by
    have ih := pt_all (z := z) hc hd h n (by omega)
    exact pt_step ih (by omega) hc hd

def dlt (z : Int) (u v : Int) : Int := if u = 0 ∧ v = 0 then z else 0
theorem pt_one {z : Int} (hz : 1 ≤ z ∧ z ≤ 55440) : PtI 0 [[0, 0, z]] (dlt z) := by
  have g : geti [0, 0, z] 0 = 0 ∧ geti [0, 0, z] 1 = 0 ∧ geti [0, 0, z] 2 = z := ⟨rfl, rfl, rfl⟩
  refine ⟨List.pairwise_singleton _ _, fun t ht => ?_, fun u v => ?_, fun u v h => ?_⟩
  · simp only [List.mem_singleton] at ht
    subst ht
    exact ⟨⟨rfl, by omega, by omega, by omega⟩, by omega⟩
  · unfold dlt cof cof
    rw [g.1, g.2.1, g.2.2]
    by_cases e : u = 0 ∧ v = 0
    · rw [if_pos e, if_pos ⟨e.1.symm, e.2.symm⟩]; omega
    · rw [if_neg e, if_neg (fun e' => e ⟨e'.1.symm, e'.2.symm⟩)]; rfl
  · unfold dlt at h
    split at h
    · omega
    · exact absurd rfl h
theorem prt_inv {a b c d z : Int} (ha : 0 ≤ a ∧ a ≤ 55440) (hb : 0 ≤ b ∧ b ≤ 55440) (hc : 0 ≤ c ∧ c ≤ 55440) (hd : 0 ≤ d ∧ d ≤ 55440) (hz : 1 ≤ z ∧ z ≤ 55440) {m n : Nat} (hmn : m + n ≤ 16) :
    PtI (0 + m + n) (prtL a b c d z m n) (itF c d (itF a b (dlt z) m) n) :=
  pt_all hc hd (pt_all ha hb (pt_one hz) m (by omega)) n (by omega)
theorem prt_val {a b c d z : Int} (m n : Nat) (u v : Int) : itF c d (itF a b (dlt z) m) n u v % 55441 = z * itF c d (pwF a b m) n u v % 55441 := by
  refine itF_mul c d z (fun x y => ?_) n u v
  rw [← itF_pw]
  refine itF_mul a b z (fun x y => ?_) m x y
  unfold dlt pwF
  split <;> simp

theorem adg_mono {ts : List (List Int)} {S S' : Int → Int → Int} {n m : Nat} (h : AdG ts S n) (hS : ∀ u v, S u v % 55441 = S' u v % 55441) (hn : n ≤ m) : AdG ts S' m := ⟨h.srt, h.nz, h.bd, by have := h.len; omega, fun u v => (h.eq u v).trans (hS u v)⟩
theorem adg_nil {S : Int → Int → Int} (hS : ∀ u v, S u v = 0) : AdG [] S 0 := ⟨List.Pairwise.nil, fun _ h => (by cases h), fun _ h => (by cases h), Nat.le_refl _, fun u v => by rw [hS]; rfl⟩
theorem lc_inv {f : List (List Int)} (hf : isPo f = true) {a b c d : Int} (ha : 0 ≤ a ∧ a ≤ 55440) (hb : 0 ≤ b ∧ b ≤ 55440) (hc : 0 ≤ c ∧ c ≤ 55440) (hd : 0 ≤ d ∧ d ≤ 55440) (h16 : ∀ j, j < f.length → t0 f j + t1 f j ≤ 16) :
    ∀ i, i ≤ f.length → AdG (lcL f a b c d i) (lcF f a b c d i) (i * 153)
  | 0, _ => adg_nil fun u v => rfl
  | i + 1, hi => by
    have ih := lc_inv hf ha hb hc hd h16 i (by omega)
    obtain ⟨_, _, _, z4, _⟩ := (isPo_of hf).2 i (by omega)
    have hp := prt_inv ha hb hc hd z4 (h16 i (by omega))
    have hte := hp.te (by have := h16 i (by omega); omega)
    refine adg_mono (ad_all ih hte.1 hp.srt (k := 1) (by omega)) (fun u v => ?_) (by omega)
    have h1 := hp.eq u v
    have h2 := prt_val (a := a) (b := b) (c := c) (d := d) (z := geti (gets f (i : Nat)) 2) (t0 f i) (t1 f i) u v
    have h3 : lcF f a b c d (i + 1) u v = lcF f a b c d i u v + lcT f a b c d u v i := by unfold lcF; rw [sumL_succ]
    rw [h3]
    unfold lcT
    omega
end Go.Proofs.Ytkickbnahajpoaa
/-
  A literal slice of one row, as an own slice of rows. No condition.
-/
namespace Go.Proofs.Ytkickbnahajpoaa
open Go Go.RowKit
section
variable {P : Program} {env : Env} {os : List AO} {d : Option Tmp} {ty : TypeId} {pos : String} {af : Array Edge} {g : Option (Nat × Bool)}

theorem l_bsr1s {t e e2 : TypeId} {bytes : Nat} [ht : TSlice P t e] [he : TElem P e (.slice none 0 0) bytes] [ht2 : TSlice P e e2] {x : Operand} {k : Nat} {e3 : TypeId} {ys : List Int} (hx : AV.ev env x = .own k) (hk : os[k]? = some (.sli e3 ys)) (he3 : e3 = e2) :
    LOp P ⟨d, .buildSlice t 1 #[(0, x)], ty, pos, af, g⟩ env os (.own os.length) (env.mp (AV.rin k os.length 0)) (((((os ++ [AO.sls e e2 []]).map (AO.via (AV.rin k os.length 0) os.length)).set os.length (.sls e e2 [ys])).set k .dead)) := by
  subst he3
  intro base w gs tm hr
  have hxv := hr.ev x
  rw [hx] at hxv
  generalize hv : Act.eval ⟨tm, []⟩ x = v at hxv
  cases hxv with
  | @own _ gk hgk =>
    obtain ⟨b1, b2, b3⟩ := hr.ho _ _ _ hgk hk
    obtain ⟨ua, uc, eu⟩ := ownsRow_slice b1
    obtain ⟨ii, hi, hs, hz, hby⟩ := he.info
    have hkl : k < os.length := (List.getElem?_eq_some_iff.1 hk).1
    let g0 : Gh := ⟨.slice none 0 0, 0, [], []⟩
    have hr1 : Rel base w (gs ++ [g0]) env (os ++ [.sls e e3 []]) tm := hr.new (Below.refl _ _) _ g0 (fun _ b hb => by simp [g0] at hb) ⟨[], [], [], World.ownsRow_nil w base e 1, rfl, rfl, rfl, fun i u h => (by simp at h), .inl ⟨rfl, rfl⟩, rfl, by simp [g0]⟩
    have hl := hr.hl
    have hgp : (gs ++ [g0])[os.length]? = some g0 := by rw [← hl]; simp
    have hop : (os ++ [AO.sls e e3 []])[os.length]? = some (.sls e e3 []) := by simp
    have hgk' : (gs ++ [g0])[k]? = some gk := by rw [List.getElem?_append_left (by omega)]; exact hgk
    have hok' : (os ++ [AO.sls e e3 []])[k]? = some (.sli e3 ys) := by rw [List.getElem?_append_left hkl]; exact hk
    have hpl : os.length < (gs ++ [g0]).length := by simp; omega
    let w' := w.alloc (.cells [gk.v].toArray e)
    let g' : Gh := ⟨.slice (some ⟨w.heap.size, 0, none⟩) 1 1, w.heap.size, [w.heap.size] ++ gk.bl, [gk.v]⟩
    have hbel : Below w.heap.size w w' := below_alloc w _
    have hblk : ∀ b, b ∈ gk.bl → b < w.heap.size := fun b hb => (hr.hn _ _ _ hgk hk (by simp) b hb).2
    have sv : RowIn os.length k 0 (gs ++ [g0]) ((gs ++ [g0]).set os.length g') := by
      refine ⟨fun j z hj hz => ?_, fun z hz => ⟨g', by rw [List.getElem?_set_self hpl], fun i u hiu => ?_⟩, fun z hz => ⟨g', by rw [List.getElem?_set_self hpl], ?_⟩⟩
      · rw [List.getElem?_set, if_neg (fun e => hj e.symm)]; exact hz
      · rw [hgp] at hz; cases hz; simp [g0] at hiu
      · rw [hgk'] at hz; cases hz; rfl
    refine ⟨.slice (some ⟨w.heap.size, 0, none⟩) 1 1, w', (gs ++ [g0]).set os.length g', .inl ?_, hr1.absorb hgp hop trivial hgk' hok' trivial (by omega) g' (.sls e e3 [ys]) (AV.rin k os.length 0) rfl (fun b hb _ => hbel.block b hb) hbel.size ?_ (fun kp hv => hv.rin kp sv) ?_, ?_, hbel.mono hr.hb⟩
    · simp [execOp, Instr.buildSlice, run_underlying ht.und, sizeOf, typeInfo, zeroValue, hi, hs, hz, Instr.fill, newRow, hv, eu, Value.cells, ar1, w']
    · intro b hb
      have hsz : w'.heap.size = w.heap.size + 1 := by simp [w']
      rcases List.mem_append.1 hb with hb | hb
      · simp at hb
        exact ⟨.inr (.inr (by omega)), by omega⟩
      · have := hblk b hb
        exact ⟨.inr (.inl hb), by omega⟩
    · intro kp
      refine ⟨[gk.v], [gk.bl], [w.heap.size], ⟨rfl, .inr ⟨w.heap.size, 1, _, rfl, hr.hb, heap_alloc_new w _, Nat.le_refl _, by simp [maxLen], by simp, by simp⟩⟩, rfl, rfl, rfl, fun j u hj => ?_, .inr ⟨rfl, rfl⟩, by simp [g'], ?_⟩
      · match j with
        | 0 =>
          simp at hj
          subst hj
          exact ⟨ownsRow_of_block b1 fun c hc => hbel.block c (hblk c (b3.mem hc)), b2, b3.list⟩
        | j + 1 => simp at hj
      · show ([w.heap.size] ++ gk.bl).Nodup
        rw [List.singleton_append, List.nodup_cons]
        exact ⟨fun hc => by have := hblk _ hc; omega, b3.nodup⟩
    · exact RV.own (g := g') (by rw [List.getElem?_set_self hpl])
end
section
variable {P : Program} {env : Env} {os : List AO} {d : Tmp} {ty : TypeId} {pos : String} {af : Array Edge} {l rest : List Oper} {K : APost}
theorem w_bsr1s {t e e2 e3 : TypeId} {bytes : Nat} [TSlice P t e] [TElem P e (.slice none 0 0) bytes] [TSlice P e e2] {x : Operand} {k m : Nat} {ys : List Int} (hx : evo env x = some (.own k)) (hk : os[k]? = some (.sli e3 ys)) (he3 : e3 = e2) (hm : os.length = m)
    (h' : AOps P .seq l rest K (Env.up (env.mp (AV.rin k m 0)) d (.own m)) (((((os ++ [AO.sls e e2 []]).map (AO.via (AV.rin k m 0) m)).set m (.sls e e2 [ys])).set k .dead))) :
    AOps P .seq l (⟨some d, .buildSlice t 1 #[(0, x)], ty, pos, af, none⟩ :: rest) K env os := by
  subst hm
  exact AOps.lo (l_bsr1s (ev_of hx) hk he3) h'
end
section
variable {P : Program} {N : APost} {X : Nat → APost} {Rt : APost} {env : Env} {os : List AO}
/-- A loop whose rounds may number the objects anew. -/
theorem AWp.loopS {c : Code} {ι : Type} (E : ι → Env) (O : ι → List AO) (φ : ι → Prop) (μ : ι → Nat) (x0 : ι) (h0 : φ x0) (f0 : Fit env os (E x0) (O x0))
    (round : ∀ x, φ x → AWp P c (fun env' os' => ∃ y, φ y ∧ μ y < μ x ∧ (Fit env' os' (E y) (O y) ∨ ∃ σ, FitS σ env' os' (E y) (O y))) X Rt (E x) (O x)) : AWp P (.loop c) N X Rt env os := by
  intro base w0 w gs tm hr hb
  obtain ⟨gs0, hr0⟩ := hr.fit f0
  refine wp_loop_ghost (fun n a w' => ∃ x gs', φ x ∧ μ x = n ∧ Rel base w' gs' (E x) (O x) a.tmps ∧ a.defers = [] ∧ Below base w0 w') (μ x0) ⟨x0, gs0, h0, rfl, hr0, rfl, hb⟩ ?_
  rintro n a w1 ⟨x, gs1, hφ, rfl, hr1, hd, hb1⟩
  have ea : a = ⟨a.tmps, []⟩ := by cases a; simp_all
  rw [ea]
  refine wp_mono (round x hφ base w0 w1 gs1 a.tmps hr1 hb1) ?_
  intro e a' w' hq
  cases e with
  | normal =>
    obtain ⟨env', os', gs', r1, r2, r3, y, hy, hlt, hf⟩ := hq
    rcases hf with hf | ⟨σ, hf⟩
    · obtain ⟨gs2, hr2⟩ := r1.fit hf
      exact ⟨μ y, hlt, y, gs2, hy, rfl, hr2, r2, r3⟩
    · obtain ⟨gs2, hr2⟩ := r1.fits hf
      exact ⟨μ y, hlt, y, gs2, hy, rfl, hr2, r2, r3⟩
  | exit j => exact hq
  | ret => exact hq
  | goto l => exact hq
  | panic ch => exact hq
  | outgrown => exact hq
end

end Go.Proofs.Ytkickbnahajpoaa
/-
  Linear changes: the reference's walk. No condition.
-/
namespace Go.Proofs.Ytkickbnahajpoaa
open Go Go.RowKit
attribute [local irreducible] AWp AOps ResIs Ret1 QOp LOp COp AFnV AFn Imms LeE LeO
set_option maxHeartbeats 1000000
set_option linter.unusedSimpArgs false
set_option linter.unusedVariables false

set_option maxHeartbeats 16000000 in
theorem specLC_c (f : List (List Int)) (hf : isPo f = true) (hpos : 0 < f.length) (a b c d : Int) (ha : 0 ≤ a ∧ a ≤ 55440) (hb : 0 ≤ b ∧ b ≤ 55440) (hc : 0 ≤ c ∧ c ≤ 55440) (hd : 0 ≤ d ∧ d ≤ 55440)
    (hdet : (a * d - b * c) % 55441 ≠ 0) (hdeg : geti (gets f ((f.length : Int) - 1)) 0 + geti (gets f ((f.length : Int) - 1)) 1 ≤ 16) (h16 : ∀ j, j < f.length → t0 f j + t1 f j ≤ 16) :
    AFn Try.prog 18 [.agg [.intss f], .i a, .i b, .i c, .i d] (IsPolC 52 2 (lcL f a b c d f.length) 0) := by
  have q1 := l17Is_c f
  rw [hf] at q1
  have m1 := mulC ha hd
  have m2 := mulC hb hc
  have hlen := (isPo_of hf).1
  obtain ⟨z1, z2, z3, z4, _⟩ := (isPo_of hf).2 (f.length - 1) (by omega)
  rw [show ((f.length - 1 : Nat) : Int) = (f.length : Int) - 1 by omega] at z1 z2 z3 z4
  have hdt : (a * d - b * c).tmod 55441 ≠ 0 := by
    rcases Int.lt_or_le (a * d - b * c) 0 with h | h
    · have := Int.tmod_eq_emod_of_nonneg (a := -(a * d - b * c)) (b := 55441) (by omega)
      rw [Int.neg_tmod] at this
      omega
    · rw [Int.tmod_eq_emod_of_nonneg h]; exact hdet
  have fte : ∀ x y : Int, 0 ≤ x ∧ x ≤ 55440 → 0 ≤ y ∧ y ≤ 55440 → AFnT Try.prog 40 [.own 0, .i 0, .i 1, .i y] 52 2 (putT [] 1 0 (x % 55441)) (fun r => r = frm x y) := fun x y hx hy =>
    l17Put_c (putT [] 1 0 (x % 55441)) 0 1 y (fun t ht => by
      rw [putT_nil] at ht
      split at ht
      · simp at ht
      · simp only [List.mem_singleton] at ht
        subst ht
        have g2 : geti [1, 0, x % 55441] 0 = 1 ∧ geti [1, 0, x % 55441] 1 = 0 ∧ geti [1, 0, x % 55441] 2 = x % 55441 := ⟨rfl, rfl, rfl⟩
        exact ⟨rfl, by omega, by omega, by omega⟩) (by have := put_len [] 1 0 (x % 55441); simp at this; omega) (by omega) (by omega) (by omega)
  have f1 := fte a b ha hb
  have f2 := fte c d hc hd
  have n1 := putNil_c 1 0 a (by omega) (by omega) (by omega)
  have n2 := putNil_c 1 0 c (by omega) (by omega) (by omega)
  (refine AFn.start Try.func18 Try.ntmps18 rfl (by kernel_rfl) fun hk => ?_; simp only [Env.start, enumF, List.length_cons, List.length_nil, Nat.reduceAdd, Nat.reduceSub, List.cons_append, List.nil_append])
  repeat' (first
  | (apply AOps.nil; try simp only [List.nil_append, List.cons_append, List.set_cons_zero, List.set_cons_succ, List.length_cons, List.length_nil, Nat.reduceAdd, AV.sh, AV.sh1, AV.sh0, AO.sh, List.map_cons, List.map_nil, Nat.zero_add, Nat.add_zero, setAll])
  | ((apply AOps.splitP; exact rfl; exact rfl) <;> intro h)
  | ((apply AOps.splitN; exact rfl; exact rfl) <;> intro h)
  | (apply w_move; exact rfl; exact rfl)
  | (apply w_assign; exact rfl; exact rfl)
  | apply AWp.seq
  | apply AWp.region
  | ((apply AWp.condP; exact rfl) <;> intro h)
  | ((apply AWp.condN; exact rfl) <;> intro h)
  | (apply AWp.condT; exact rfl)
  | (apply AWp.condF; exact rfl)
  | ((apply AWp.condB; exact rfl) <;> intro h)
  | apply AWp.block
  | apply AWp.ret
  | apply AWp.exit
  | apply AWp.skip
  | (apply AWp.regionQ; kernel_rfl; kernel_rfl)
  | (apply if_pos'; exact rfl)
  | (apply if_neg'; decide)
  | (apply w_skip; exact rfl)
  | (apply w_pickT; exact rfl; exact rfl; exact rfl)
  | (apply w_pickF; exact rfl; exact rfl; exact rfl)
  | (apply w_len; exact rfl; exact rfl; first | exact .ints _ | exact .intss _ | exact .sli rfl | exact .sls rfl | exact .slr rfl | exact .orow rfl | exact .nil)
  | (apply w_bs4; iterate 5 exact rfl)
  | (apply w_call (q1); exact rfl; exact rfl; focus ((repeat (first | exact im_nil | refine im_cons rfl (.val _) ?_ | refine im_cons rfl (.ints _) ?_ | refine im_cons rfl (.intss _) ?_ | refine im_cons rfl (.sls rfl) ?_ | refine im_cons rfl (im_agg1 (.intss _)) ?_ | refine im_cons rfl (im_agg1 (.sls rfl)) ?_ | refine im_cons rfl (im_agg1 (.nils)) ?_)); done))
  | omega
  | ((first | apply w_lss | apply w_leq | apply w_gtr | apply w_geq | apply w_eql | apply w_neq | apply w_add | apply w_sub | apply w_mul | apply w_idx | apply w_ld | apply w_fld | apply w_fa | apply w_extv); iterate 3 exact rfl)
  | ((first | apply w_eqlb | apply w_neqb | apply w_idxs | apply w_lds | apply w_ext); iterate 3 exact rfl)
  | (apply w_rem; exact rfl; exact rfl; exact rfl; (focus (omega; done)); (focus (omega; done)))
  | (apply w_remT; exact rfl; exact rfl; exact rfl)
  | ((first | apply w_not | apply w_build0 | apply w_boxa); iterate 2 exact rfl)
  | (apply w_idxo; exact rfl; exact rfl; (first | exact .sli rfl | exact .sls rfl | exact .slr rfl); exact rfl)
  | ((first | apply w_idxr | apply w_ldr); iterate 4 exact rfl)
  | (apply w_ldo; iterate 4 exact rfl)
  | (apply w_ldls; iterate 4 exact rfl)
  | (apply w_ldrp; iterate 4 exact rfl)
  | (apply w_ldb; iterate 5 exact rfl)
  | (apply w_ldst; iterate 5 exact rfl)
  | (apply w_build1; exact rfl; exact rfl; (first | exact one_val rfl rfl | exact one_ints | exact one_intss | exact one_own rfl True.intro))
  | (apply w_alst; iterate 2 exact rfl)
  | (apply w_alone; iterate 3 exact rfl)
  | (apply w_stst; iterate 5 exact rfl)
  | (apply w_stbv; iterate 6 exact rfl)
  | (apply w_stbi; iterate 4 exact rfl)
  | (apply w_stbo; exact rfl; exact rfl; exact rfl; exact rfl; exact rfl; exact True.intro)
  | ((apply AOps.splitB; exact rfl; exact rfl) <;> intro h)
  | apply AllOf.nil
  | (apply AllOf.cons; exact rfl)
  | (apply AAny.take; exact rfl; exact rfl; kernel_rfl; kernel_rfl)
  | (apply AAny.all; exact rfl)
  | (apply AAny.done; exact rfl)
  | (apply inI_of <;> omega)
  | omega
  | (simp <;> omega))
  refine AWp.loop (ι := Nat) (fun n => ⟨142, [(1, .i a), (2, .i b), (3, .i c), (4, .i d), (5, .optr 0 0), (10, .optr 1 0), (11, .i 0), (12, .own 2), (13, .i n)]⟩) (fun _ => [.bx 26 [.intss f], .bx 26 [.val (.slice none 0 0)], .sli 2 [a, b, c, d]]) (fun n => n ≤ 4) (fun n => 4 - n) 0 (by omega) ⟨lee rfl (by (repeat (first | exact le_nil | refine le_eq rfl rfl ?_ | refine le_eq rfl (congrArg AV.i (by omega)) ?_))), by (repeat (first | exact lo_nil | refine lo_dead ?_ | refine lo_eq rfl ?_)), rfl, rfl⟩ ?_
  rintro n n0
  by_cases hn : n < 4
  · have hv : 0 ≤ geti [a, b, c, d] (((n : Int).toNat : Nat) : Int) ∧ geti [a, b, c, d] (((n : Int).toNat : Nat) : Int) ≤ 55440 := by
      have : n = 0 ∨ n = 1 ∨ n = 2 ∨ n = 3 := by omega
      rcases this with rfl | rfl | rfl | rfl
      · exact ha
      · exact hb
      · exact hc
      · exact hd
    have q3 := l01In_c (geti [a, b, c, d] (((n : Int).toNat : Nat) : Int)) 0 55440
    rw [decide_eq_true hv] at q3
    have hl4 : (n : Int) < ([a, b, c, d] : List Int).length := by simp only [List.length_cons, List.length_nil]; omega
    repeat' (first
  | (apply AOps.nil; try simp only [List.nil_append, List.cons_append, List.set_cons_zero, List.set_cons_succ, List.length_cons, List.length_nil, Nat.reduceAdd, AV.sh, AV.sh1, AV.sh0, AO.sh, List.map_cons, List.map_nil, Nat.zero_add, Nat.add_zero, setAll])
  | ((apply AOps.splitP; exact rfl; exact rfl) <;> intro h)
  | ((apply AOps.splitN; exact rfl; exact rfl) <;> intro h)
  | (apply w_move; exact rfl; exact rfl)
  | (apply w_assign; exact rfl; exact rfl)
  | apply AWp.seq
  | apply AWp.region
  | ((apply AWp.condP; exact rfl) <;> intro h)
  | ((apply AWp.condN; exact rfl) <;> intro h)
  | (apply AWp.condT; exact rfl)
  | (apply AWp.condF; exact rfl)
  | ((apply AWp.condB; exact rfl) <;> intro h)
  | apply AWp.block
  | apply AWp.ret
  | apply AWp.exit
  | apply AWp.skip
  | (apply if_pos'; exact rfl)
  | (apply if_neg'; decide)
  | (apply w_skip; exact rfl)
  | (apply w_pickT; exact rfl; exact rfl; exact rfl)
  | (apply w_pickF; exact rfl; exact rfl; exact rfl)
  | (apply w_len; exact rfl; exact rfl; first | exact .ints _ | exact .intss _ | exact .sli rfl | exact .sls rfl | exact .slr rfl | exact .orow rfl | exact .nil)
  | (apply w_call (q3); exact rfl; exact rfl; focus ((repeat (first | exact im_nil | refine im_cons rfl (.val _) ?_ | refine im_cons rfl (.ints _) ?_ | refine im_cons rfl (.intss _) ?_ | refine im_cons rfl (.sls rfl) ?_ | refine im_cons rfl (im_agg1 (.intss _)) ?_ | refine im_cons rfl (im_agg1 (.sls rfl)) ?_ | refine im_cons rfl (im_agg1 (.nils)) ?_)); done))
  | omega
  | ((first | apply w_lss | apply w_leq | apply w_gtr | apply w_geq | apply w_eql | apply w_neq | apply w_add | apply w_sub | apply w_mul | apply w_idx | apply w_ld | apply w_fld | apply w_fa | apply w_extv); iterate 3 exact rfl)
  | ((first | apply w_eqlb | apply w_neqb | apply w_idxs | apply w_lds | apply w_ext); iterate 3 exact rfl)
  | (apply w_rem; exact rfl; exact rfl; exact rfl; (focus (omega; done)); (focus (omega; done)))
  | (apply w_remT; exact rfl; exact rfl; exact rfl)
  | ((first | apply w_not | apply w_build0 | apply w_boxa); iterate 2 exact rfl)
  | (apply w_idxo; exact rfl; exact rfl; (first | exact .sli rfl | exact .sls rfl | exact .slr rfl); exact rfl)
  | ((first | apply w_idxr | apply w_ldr); iterate 4 exact rfl)
  | (apply w_ldo; iterate 4 exact rfl)
  | (apply w_ldls; iterate 4 exact rfl)
  | (apply w_ldrp; iterate 4 exact rfl)
  | (apply w_ldb; iterate 5 exact rfl)
  | (apply w_ldst; iterate 5 exact rfl)
  | (apply w_build1; exact rfl; exact rfl; (first | exact one_val rfl rfl | exact one_ints | exact one_intss | exact one_own rfl True.intro))
  | (apply w_alst; iterate 2 exact rfl)
  | (apply w_alone; iterate 3 exact rfl)
  | (apply w_stst; iterate 5 exact rfl)
  | (apply w_stbv; iterate 6 exact rfl)
  | (apply w_stbi; iterate 4 exact rfl)
  | (apply w_stbo; exact rfl; exact rfl; exact rfl; exact rfl; exact rfl; exact True.intro)
  | ((apply AOps.splitB; exact rfl; exact rfl) <;> intro h)
  | apply AllOf.nil
  | (apply AllOf.cons; exact rfl)
  | (apply AAny.take; exact rfl; exact rfl; kernel_rfl; kernel_rfl)
  | (apply AAny.all; exact rfl)
  | (apply AAny.done; exact rfl)
  | (apply inI_of <;> omega)
  | omega
  | (simp <;> omega))
    exact ⟨n + 1, hn, by omega, ⟨lee rfl (by (repeat (first | exact le_nil | refine le_eq rfl rfl ?_ | refine le_eq rfl (congrArg AV.i (by omega)) ?_))), by (repeat (first | exact lo_nil | refine lo_dead ?_ | refine lo_eq rfl ?_)), rfl, rfl⟩⟩
  · have e : n = 4 := by omega
    subst e
    repeat' (first
  | (apply AOps.nil; try simp only [List.nil_append, List.cons_append, List.set_cons_zero, List.set_cons_succ, List.length_cons, List.length_nil, Nat.reduceAdd, AV.sh, AV.sh1, AV.sh0, AO.sh, List.map_cons, List.map_nil, Nat.zero_add, Nat.add_zero, setAll])
  | ((apply AOps.splitP; exact rfl; exact rfl) <;> intro h)
  | ((apply AOps.splitN; exact rfl; exact rfl) <;> intro h)
  | (apply w_move; exact rfl; exact rfl)
  | (apply w_assign; exact rfl; exact rfl)
  | apply AWp.seq
  | apply AWp.region
  | ((apply AWp.condP; exact rfl) <;> intro h)
  | ((apply AWp.condN; exact rfl) <;> intro h)
  | (apply AWp.condT; exact rfl)
  | (apply AWp.condF; exact rfl)
  | ((apply AWp.condB; exact rfl) <;> intro h)
  | apply AWp.block
  | apply AWp.ret
  | apply AWp.exit
  | apply AWp.skip
  | (apply AWp.regionQ; kernel_rfl; kernel_rfl)
  | (apply if_pos'; exact rfl)
  | (apply if_neg'; decide)
  | (apply w_skip; exact rfl)
  | (apply w_pickT; exact rfl; exact rfl; exact rfl)
  | (apply w_pickF; exact rfl; exact rfl; exact rfl)
  | (apply w_len; exact rfl; exact rfl; first | exact .ints _ | exact .intss _ | exact .sli rfl | exact .sls rfl | exact .slr rfl | exact .orow rfl | exact .nil)
  | (apply w_callm (n1); (focus ((repeat (first | exact im_nil | refine im_cons rfl (.val _) ?_ | refine im_cons rfl (.ints _) ?_ | refine im_cons rfl (.intss _) ?_ | refine im_cons rfl (.sls rfl) ?_ | refine im_cons rfl (im_agg1 (.intss _)) ?_ | refine im_cons rfl (im_agg1 (.sls rfl)) ?_ | refine im_cons rfl (im_agg1 (.nils)) ?_)); done)); rintro r os0 ⟨_, rfl, rfl, rfl⟩; try simp only [List.nil_append, List.cons_append, List.set_cons_zero, List.set_cons_succ, List.length_cons, List.length_nil, Nat.reduceAdd, AV.sh, AV.sh1, AV.sh0, AO.sh, List.map_cons, List.map_nil, Nat.zero_add, Nat.add_zero, setAll])
  | (apply w_callm (n2); (focus ((repeat (first | exact im_nil | refine im_cons rfl (.val _) ?_ | refine im_cons rfl (.ints _) ?_ | refine im_cons rfl (.intss _) ?_ | refine im_cons rfl (.sls rfl) ?_ | refine im_cons rfl (im_agg1 (.intss _)) ?_ | refine im_cons rfl (im_agg1 (.sls rfl)) ?_ | refine im_cons rfl (im_agg1 (.nils)) ?_)); done)); rintro r os0 ⟨_, rfl, rfl, rfl⟩; try simp only [List.nil_append, List.cons_append, List.set_cons_zero, List.set_cons_succ, List.length_cons, List.length_nil, Nat.reduceAdd, AV.sh, AV.sh1, AV.sh0, AO.sh, List.map_cons, List.map_nil, Nat.zero_add, Nat.add_zero, setAll])
  | (apply w_callt 3 (f1); exact rfl; exact rfl; (focus ((repeat (first | exact imu_nil | refine imu_cons rfl (.val _) ?_ | refine imu_cons rfl (.ints _) ?_ | refine imu_cons rfl (.own rfl) ?_ | refine imu_cons rfl (.intss _) ?_ | refine imu_cons rfl (.sls rfl (by decide)) ?_)); done)); rintro xss0 rfl; simp only [Env.mp, List.map_cons, List.map_nil, List.set_cons_zero, List.set_cons_succ, AV.kill, AV.kill1, AO.kill, AV.lose, AV.lose1, List.map_append, map_orow_kill, AV.noRow, AV.noRow1, AO.via, reduceIte, Nat.reduceEqDiff, Nat.reduceLT, Env.up, Nat.zero_ne_one, Nat.one_ne_zero, Nat.reduceAdd, List.cons_append, List.nil_append])
  | (apply w_callt 5 (f2); exact rfl; exact rfl; (focus ((repeat (first | exact imu_nil | refine imu_cons rfl (.val _) ?_ | refine imu_cons rfl (.ints _) ?_ | refine imu_cons rfl (.own rfl) ?_ | refine imu_cons rfl (.intss _) ?_ | refine imu_cons rfl (.sls rfl (by decide)) ?_)); done)); rintro xss0 rfl; simp only [Env.mp, List.map_cons, List.map_nil, List.set_cons_zero, List.set_cons_succ, AV.kill, AV.kill1, AO.kill, AV.lose, AV.lose1, List.map_append, map_orow_kill, AV.noRow, AV.noRow1, AO.via, reduceIte, Nat.reduceEqDiff, Nat.reduceLT, Env.up, Nat.zero_ne_one, Nat.one_ne_zero, Nat.reduceAdd, List.cons_append, List.nil_append])
  | omega
  | ((first | apply w_lss | apply w_leq | apply w_gtr | apply w_geq | apply w_eql | apply w_neq | apply w_add | apply w_sub | apply w_mul | apply w_idx | apply w_ld | apply w_fld | apply w_fa | apply w_extv); iterate 3 exact rfl)
  | ((first | apply w_eqlb | apply w_neqb | apply w_idxs | apply w_lds | apply w_ext); iterate 3 exact rfl)
  | (apply w_rem; exact rfl; exact rfl; exact rfl; (focus (omega; done)); (focus (omega; done)))
  | (apply w_remT; exact rfl; exact rfl; exact rfl)
  | ((first | apply w_not | apply w_build0 | apply w_boxa); iterate 2 exact rfl)
  | (apply w_idxo; exact rfl; exact rfl; (first | exact .sli rfl | exact .sls rfl | exact .slr rfl); exact rfl)
  | ((first | apply w_idxr | apply w_ldr); iterate 4 exact rfl)
  | (apply w_ldo; iterate 4 exact rfl)
  | (apply w_ldls; iterate 4 exact rfl)
  | (apply w_ldrp; iterate 4 exact rfl)
  | (apply w_ldb; iterate 5 exact rfl)
  | (apply w_ldst; iterate 5 exact rfl)
  | (apply w_build1; exact rfl; exact rfl; (first | exact one_val rfl rfl | exact one_ints | exact one_intss | exact one_own rfl True.intro))
  | (apply w_alst; iterate 2 exact rfl)
  | (apply w_alone; iterate 3 exact rfl)
  | (apply w_stst; iterate 5 exact rfl)
  | (apply w_stbv; iterate 6 exact rfl)
  | (apply w_stbi; iterate 4 exact rfl)
  | (apply w_stbo; exact rfl; exact rfl; exact rfl; exact rfl; exact rfl; exact True.intro)
  | ((apply AOps.splitB; exact rfl; exact rfl) <;> intro h)
  | apply AllOf.nil
  | (apply AllOf.cons; exact rfl)
  | (apply AAny.take; exact rfl; exact rfl; kernel_rfl; kernel_rfl)
  | (apply AAny.all; exact rfl)
  | (apply AAny.done; exact rfl)
  | (apply inI_of <;> omega)
  | omega
  | (simp <;> omega))
    refine AWp.loopS (ι := Nat) (fun i => ⟨142, [(5, .optr 0 0), (10, .optr 1 0), (11, .i 0), (15, .optr 7 0), (16, .optr 8 0), (17, .optr 9 0), (18, .i i)]⟩) (fun i => match i with | 0 => [.bx 26 [.intss f], .bx 26 [.val (.slice none 0 0)], .sli 2 [a, b, c, d], .sls 52 2 (frm a b), .dead, .sls 52 2 (frm c d), .dead, .bx 26 [.own 3], .bx 26 [.own 5], .bx 26 [.val (.slice none 0 0)]] | i + 1 => [.bx 26 [.intss f], .bx 26 [.val (.slice none 0 0)], .sli 2 [a, b, c, d], .sls 52 2 (frm a b), .dead, .sls 52 2 (frm c d), .dead, .bx 26 [.own 3], .bx 26 [.own 5], .bx 26 [.own 10], .sls 52 2 (lcL f a b c d (i + 1))]) (fun i => i ≤ f.length) (fun i => f.length - i) 0 (by omega) ⟨lee rfl (by (repeat (first | exact le_nil | refine le_eq rfl rfl ?_ | refine le_eq rfl (congrArg AV.i (by omega)) ?_))), by (repeat (first | exact lo_nil | refine lo_dead ?_ | refine lo_eq rfl ?_)), rfl, rfl⟩ ?_
    intro i hi0
    cases i with
    | zero =>
      dsimp only
      have hi : 0 < f.length := hpos
      obtain ⟨y1, y2, y3, y4, _⟩ := (isPo_of hf).2 0 hi
      have hh := h16 0 hi
      have e0 : (t0 f 0 : Int) = geti (gets f ((0 : Nat) : Int)) 0 := by unfold t0; omega
      have e1 : (t1 f 0 : Int) = geti (gets f ((0 : Nat) : Int)) 1 := by unfold t1; omega
      have hp1 : ∀ k, k ≤ t0 f 0 → PtI (0 + k) (ptL 0 (frm a b) [[0, 0, geti (gets f ((0 : Nat) : Int)) 2]] k) (itF a b (dlt (geti (gets f ((0 : Nat) : Int)) 2)) k) := fun k hk => pt_all ha hb (pt_one y4) k (by omega)
      have hp2 : ∀ k, k ≤ t1 f 0 → PtI (0 + t0 f 0 + k) (ptL 0 (frm c d) (ptL 0 (frm a b) [[0, 0, geti (gets f ((0 : Nat) : Int)) 2]] (t0 f 0)) k) (itF c d (itF a b (dlt (geti (gets f ((0 : Nat) : Int)) 2)) (t0 f 0)) k) := fun k hk => pt_all hc hd (hp1 _ (Nat.le_refl _)) k (by omega)
      repeat' (first
  | (apply AOps.nil; try simp only [List.nil_append, List.cons_append, List.set_cons_zero, List.set_cons_succ, List.length_cons, List.length_nil, Nat.reduceAdd, AV.sh, AV.sh1, AV.sh0, AO.sh, List.map_cons, List.map_nil, Nat.zero_add, Nat.add_zero, setAll])
  | ((apply AOps.splitP; exact rfl; exact rfl) <;> intro h)
  | ((apply AOps.splitN; exact rfl; exact rfl) <;> intro h)
  | (apply w_move; exact rfl; exact rfl)
  | (apply w_assign; exact rfl; exact rfl)
  | apply AWp.seq
  | apply AWp.region
  | ((apply AWp.condP; exact rfl) <;> intro h)
  | ((apply AWp.condN; exact rfl) <;> intro h)
  | (apply AWp.condT; exact rfl)
  | (apply AWp.condF; exact rfl)
  | ((apply AWp.condB; exact rfl) <;> intro h)
  | apply AWp.block
  | apply AWp.ret
  | apply AWp.exit
  | apply AWp.skip
  | (apply if_pos'; exact rfl)
  | (apply if_neg'; decide)
  | (apply w_skip; exact rfl)
  | (apply w_pickT; exact rfl; exact rfl; exact rfl)
  | (apply w_pickF; exact rfl; exact rfl; exact rfl)
  | (apply w_len; exact rfl; exact rfl; first | exact .ints _ | exact .intss _ | exact .sli rfl | exact .sls rfl | exact .slr rfl | exact .orow rfl | exact .nil)
  | (apply w_bsr1s; exact rfl; exact rfl; exact rfl; exact rfl; simp only [Env.mp, List.map_cons, List.map_nil, List.set_cons_zero, List.set_cons_succ, AV.kill, AV.kill1, AO.kill, AV.rin, AV.rin1, AV.noRow, AV.noRow1, AO.via, reduceIte, Nat.reduceEqDiff, Nat.reduceLT, Env.up, Nat.zero_ne_one, Nat.one_ne_zero, Nat.reduceAdd, List.cons_append, List.nil_append])
  | ((first | apply w_slshi | apply w_slslo | apply w_bs3 | apply w_stbi); iterate 4 exact rfl)
  | (apply w_storp; exact rfl; exact rfl; rotate_left 2; exact rfl; rotate_left 2)
  | omega
  | ((first | apply w_lss | apply w_leq | apply w_gtr | apply w_geq | apply w_eql | apply w_neq | apply w_add | apply w_sub | apply w_mul | apply w_idx | apply w_ld | apply w_fld | apply w_fa | apply w_extv); iterate 3 exact rfl)
  | ((first | apply w_eqlb | apply w_neqb | apply w_idxs | apply w_lds | apply w_ext); iterate 3 exact rfl)
  | (apply w_rem; exact rfl; exact rfl; exact rfl; (focus (omega; done)); (focus (omega; done)))
  | (apply w_remT; exact rfl; exact rfl; exact rfl)
  | ((first | apply w_not | apply w_build0 | apply w_boxa); iterate 2 exact rfl)
  | (apply w_idxo; exact rfl; exact rfl; (first | exact .sli rfl | exact .sls rfl | exact .slr rfl); exact rfl)
  | ((first | apply w_idxr | apply w_ldr); iterate 4 exact rfl)
  | (apply w_ldo; iterate 4 exact rfl)
  | (apply w_ldls; iterate 4 exact rfl)
  | (apply w_ldrp; iterate 4 exact rfl)
  | (apply w_ldb; iterate 5 exact rfl)
  | (apply w_ldst; iterate 5 exact rfl)
  | (apply w_build1; exact rfl; exact rfl; (first | exact one_val rfl rfl | exact one_ints | exact one_intss | exact one_own rfl True.intro))
  | (apply w_alst; iterate 2 exact rfl)
  | (apply w_alone; iterate 3 exact rfl)
  | (apply w_stst; iterate 5 exact rfl)
  | (apply w_stbv; iterate 6 exact rfl)
  | (apply w_stbo; exact rfl; exact rfl; exact rfl; exact rfl; exact rfl; exact True.intro)
  | ((apply AOps.splitB; exact rfl; exact rfl) <;> intro h)
  | apply AllOf.nil
  | (apply AllOf.cons; exact rfl)
  | (apply AAny.take; exact rfl; exact rfl; kernel_rfl; kernel_rfl)
  | (apply AAny.all; exact rfl)
  | (apply AAny.done; exact rfl)
  | (apply inI_of <;> omega)
  | omega
  | (simp <;> omega))
      refine AWp.loopS (ι := Nat) (fun k => ⟨142, [(5, .optr 0 0), (10, .optr 1 0), (11, .i 0), (15, .optr 7 0), (16, .optr 8 0), (17, .optr 9 0), (18, .i ((0 : Nat) : Int)), (19, .optr 12 0), (20, .i k)]⟩) (fun k => [.bx 26 [.intss f], .bx 26 [.val (.slice none 0 0)], .sli 2 [a, b, c, d], .sls 52 2 (frm a b), .dead, .sls 52 2 (frm c d), .dead, .bx 26 [.own 3], .bx 26 [.own 5], .bx 26 [.val (.slice none 0 0)], .dead, .sls 52 2 (ptL 0 (frm a b) [[0, 0, geti (gets f ((0 : Nat) : Int)) 2]] k), .bx 26 [.own 11]]) (fun k => k ≤ t0 f 0) (fun k => t0 f 0 - k) 0 (by omega) ⟨lee rfl (by (repeat (first | exact le_nil | refine le_eq rfl rfl ?_ | refine le_eq rfl (congrArg AV.i (by omega)) ?_))), by (repeat (first | exact lo_nil | refine lo_dead ?_ | refine lo_eq rfl ?_)), rfl, rfl⟩ ?_
      intro k hk0
      have hpk := hp1 k hk0
      have htk := hpk.te (by omega)
      have htm := l17Times_c (ptL 0 (frm a b) [[0, 0, geti (gets f ((0 : Nat) : Int)) 2]] k) (frm a b) htk.1 (frm_te ha hb).1 (by omega) (by have := (frm_te ha hb).2; omega)
      by_cases hk2 : k < t0 f 0
      · repeat' (first
  | (apply AOps.nil; try simp only [List.nil_append, List.cons_append, List.set_cons_zero, List.set_cons_succ, List.length_cons, List.length_nil, Nat.reduceAdd, AV.sh, AV.sh1, AV.sh0, AO.sh, List.map_cons, List.map_nil, Nat.zero_add, Nat.add_zero, setAll])
  | ((apply AOps.splitP; exact rfl; exact rfl) <;> intro h)
  | ((apply AOps.splitN; exact rfl; exact rfl) <;> intro h)
  | (apply w_move; exact rfl; exact rfl)
  | (apply w_assign; exact rfl; exact rfl)
  | apply AWp.seq
  | apply AWp.region
  | ((apply AWp.condP; exact rfl) <;> intro h)
  | ((apply AWp.condN; exact rfl) <;> intro h)
  | (apply AWp.condT; exact rfl)
  | (apply AWp.condF; exact rfl)
  | ((apply AWp.condB; exact rfl) <;> intro h)
  | apply AWp.block
  | apply AWp.ret
  | apply AWp.exit
  | apply AWp.skip
  | (apply if_pos'; exact rfl)
  | (apply if_neg'; decide)
  | (apply w_skip; exact rfl)
  | (apply w_pickT; exact rfl; exact rfl; exact rfl)
  | (apply w_pickF; exact rfl; exact rfl; exact rfl)
  | (apply w_len; exact rfl; exact rfl; first | exact .ints _ | exact .intss _ | exact .sli rfl | exact .sls rfl | exact .slr rfl | exact .orow rfl | exact .nil)
  | (apply w_callm (htm); (focus ((repeat (first | exact im_nil | refine im_cons rfl (.val _) ?_ | refine im_cons rfl (.ints _) ?_ | refine im_cons rfl (.intss _) ?_ | refine im_cons rfl (.sls rfl) ?_ | refine im_cons rfl (im_agg1 (.intss _)) ?_ | refine im_cons rfl (im_agg1 (.sls rfl)) ?_ | refine im_cons rfl (im_agg1 (.nils)) ?_)); done)); rintro r os0 ⟨rfl, rfl⟩; try simp only [List.nil_append, List.cons_append, List.set_cons_zero, List.set_cons_succ, List.length_cons, List.length_nil, Nat.reduceAdd, AV.sh, AV.sh1, AV.sh0, AO.sh, List.map_cons, List.map_nil, Nat.zero_add, Nat.add_zero, setAll])
  | omega
  | ((first | apply w_lss | apply w_leq | apply w_gtr | apply w_geq | apply w_eql | apply w_neq | apply w_add | apply w_sub | apply w_mul | apply w_idx | apply w_ld | apply w_fld | apply w_fa | apply w_extv); iterate 3 exact rfl)
  | ((first | apply w_eqlb | apply w_neqb | apply w_idxs | apply w_lds | apply w_ext); iterate 3 exact rfl)
  | (apply w_rem; exact rfl; exact rfl; exact rfl; (focus (omega; done)); (focus (omega; done)))
  | (apply w_remT; exact rfl; exact rfl; exact rfl)
  | ((first | apply w_not | apply w_build0 | apply w_boxa); iterate 2 exact rfl)
  | (apply w_idxo; exact rfl; exact rfl; (first | exact .sli rfl | exact .sls rfl | exact .slr rfl); exact rfl)
  | ((first | apply w_idxr | apply w_ldr); iterate 4 exact rfl)
  | (apply w_ldo; iterate 4 exact rfl)
  | (apply w_ldls; iterate 4 exact rfl)
  | (apply w_ldrp; iterate 4 exact rfl)
  | (apply w_ldb; iterate 5 exact rfl)
  | (apply w_ldst; iterate 5 exact rfl)
  | (apply w_build1; exact rfl; exact rfl; (first | exact one_val rfl rfl | exact one_ints | exact one_intss | exact one_own rfl True.intro))
  | (apply w_alst; iterate 2 exact rfl)
  | (apply w_alone; iterate 3 exact rfl)
  | (apply w_stst; iterate 5 exact rfl)
  | (apply w_stbv; iterate 6 exact rfl)
  | (apply w_stbi; iterate 4 exact rfl)
  | (apply w_stbo; exact rfl; exact rfl; exact rfl; exact rfl; exact rfl; exact True.intro)
  | ((apply AOps.splitB; exact rfl; exact rfl) <;> intro h)
  | apply AllOf.nil
  | (apply AllOf.cons; exact rfl)
  | (apply AAny.take; exact rfl; exact rfl; kernel_rfl; kernel_rfl)
  | (apply AAny.all; exact rfl)
  | (apply AAny.done; exact rfl)
  | (apply inI_of <;> omega)
  | omega
  | (simp <;> omega))
        refine ⟨k + 1, hk2, by omega, ?_⟩
        (first | (apply Or.inl; refine ⟨lee rfl ?_, ?_, rfl, rfl⟩; (focus ((repeat (first | exact le_nil | refine le_eq rfl rfl ?_ | (refine le_eq rfl (congrArg AV.i ?_) ?_; (focus (omega; done))))); done)); (focus ((repeat (first | exact lo_nil | refine lo_dead ?_ | refine lo_eq rfl ?_)); done))) | (apply Or.inr; refine ⟨[0, 1, 2, 3, 4, 5, 6, 7, 8, 9, 10, 13, 12], ⟨by decide, fun x hx => Nat.lt_of_lt_of_le ((by decide : ∀ x ∈ ([0, 1, 2, 3, 4, 5, 6, 7, 8, 9, 10, 13, 12] : List Nat), x < 14) x hx) (Nat.le_of_ble_eq_true rfl)⟩, lee rfl ?_, ?_, rfl, rfl⟩; (focus ((repeat (first | exact le_nil | refine le_eq rfl rfl ?_ | (refine le_eq rfl (congrArg AV.i ?_) ?_; (focus (omega; done))))); done)); (focus ((repeat (first | exact lo_nil | refine lo_dead ?_ | refine lo_eq rfl ?_)); done))))
      have ek : k = t0 f 0 := by omega
      subst ek
      repeat' (first
  | (apply AOps.nil; try simp only [List.nil_append, List.cons_append, List.set_cons_zero, List.set_cons_succ, List.length_cons, List.length_nil, Nat.reduceAdd, AV.sh, AV.sh1, AV.sh0, AO.sh, List.map_cons, List.map_nil, Nat.zero_add, Nat.add_zero, setAll])
  | ((apply AOps.splitP; exact rfl; exact rfl) <;> intro h)
  | ((apply AOps.splitN; exact rfl; exact rfl) <;> intro h)
  | (apply w_move; exact rfl; exact rfl)
  | (apply w_assign; exact rfl; exact rfl)
  | apply AWp.seq
  | apply AWp.region
  | ((apply AWp.condP; exact rfl) <;> intro h)
  | ((apply AWp.condN; exact rfl) <;> intro h)
  | (apply AWp.condT; exact rfl)
  | (apply AWp.condF; exact rfl)
  | ((apply AWp.condB; exact rfl) <;> intro h)
  | apply AWp.block
  | apply AWp.ret
  | apply AWp.exit
  | apply AWp.skip
  | (apply if_pos'; exact rfl)
  | (apply if_neg'; decide)
  | (apply w_skip; exact rfl)
  | (apply w_pickT; exact rfl; exact rfl; exact rfl)
  | (apply w_pickF; exact rfl; exact rfl; exact rfl)
  | (apply w_len; exact rfl; exact rfl; first | exact .ints _ | exact .intss _ | exact .sli rfl | exact .sls rfl | exact .slr rfl | exact .orow rfl | exact .nil)
  | omega
  | ((first | apply w_lss | apply w_leq | apply w_gtr | apply w_geq | apply w_eql | apply w_neq | apply w_add | apply w_sub | apply w_mul | apply w_idx | apply w_ld | apply w_fld | apply w_fa | apply w_extv); iterate 3 exact rfl)
  | ((first | apply w_eqlb | apply w_neqb | apply w_idxs | apply w_lds | apply w_ext); iterate 3 exact rfl)
  | (apply w_rem; exact rfl; exact rfl; exact rfl; (focus (omega; done)); (focus (omega; done)))
  | (apply w_remT; exact rfl; exact rfl; exact rfl)
  | ((first | apply w_not | apply w_build0 | apply w_boxa); iterate 2 exact rfl)
  | (apply w_idxo; exact rfl; exact rfl; (first | exact .sli rfl | exact .sls rfl | exact .slr rfl); exact rfl)
  | ((first | apply w_idxr | apply w_ldr); iterate 4 exact rfl)
  | (apply w_ldo; iterate 4 exact rfl)
  | (apply w_ldls; iterate 4 exact rfl)
  | (apply w_ldrp; iterate 4 exact rfl)
  | (apply w_ldb; iterate 5 exact rfl)
  | (apply w_ldst; iterate 5 exact rfl)
  | (apply w_build1; exact rfl; exact rfl; (first | exact one_val rfl rfl | exact one_ints | exact one_intss | exact one_own rfl True.intro))
  | (apply w_alst; iterate 2 exact rfl)
  | (apply w_alone; iterate 3 exact rfl)
  | (apply w_stst; iterate 5 exact rfl)
  | (apply w_stbv; iterate 6 exact rfl)
  | (apply w_stbi; iterate 4 exact rfl)
  | (apply w_stbo; exact rfl; exact rfl; exact rfl; exact rfl; exact rfl; exact True.intro)
  | ((apply AOps.splitB; exact rfl; exact rfl) <;> intro h)
  | apply AllOf.nil
  | (apply AllOf.cons; exact rfl)
  | (apply AAny.take; exact rfl; exact rfl; kernel_rfl; kernel_rfl)
  | (apply AAny.all; exact rfl)
  | (apply AAny.done; exact rfl)
  | (apply inI_of <;> omega)
  | omega
  | (simp <;> omega))
      refine AWp.loopS (ι := Nat) (fun k => ⟨142, [(5, .optr 0 0), (10, .optr 1 0), (11, .i 0), (15, .optr 7 0), (16, .optr 8 0), (17, .optr 9 0), (18, .i ((0 : Nat) : Int)), (19, .optr 12 0), (21, .i k)]⟩) (fun k => [.bx 26 [.intss f], .bx 26 [.val (.slice none 0 0)], .sli 2 [a, b, c, d], .sls 52 2 (frm a b), .dead, .sls 52 2 (frm c d), .dead, .bx 26 [.own 3], .bx 26 [.own 5], .bx 26 [.val (.slice none 0 0)], .dead, .sls 52 2 (ptL 0 (frm c d) (ptL 0 (frm a b) [[0, 0, geti (gets f ((0 : Nat) : Int)) 2]] (t0 f 0)) k), .bx 26 [.own 11]]) (fun k => k ≤ t1 f 0) (fun k => t1 f 0 - k) 0 (by omega) ⟨lee rfl (by (repeat (first | exact le_nil | refine le_eq rfl rfl ?_ | refine le_eq rfl (congrArg AV.i (by omega)) ?_))), by (repeat (first | exact lo_nil | refine lo_dead ?_ | refine lo_eq rfl ?_)), rfl, rfl⟩ ?_
      intro k hk0
      have hpk := hp2 k hk0
      have htk := hpk.te (by omega)
      have htm := l17Times_c (ptL 0 (frm c d) (ptL 0 (frm a b) [[0, 0, geti (gets f ((0 : Nat) : Int)) 2]] (t0 f 0)) k) (frm c d) htk.1 (frm_te hc hd).1 (by omega) (by have := (frm_te hc hd).2; omega)
      by_cases hk2 : k < t1 f 0
      · repeat' (first
  | (apply AOps.nil; try simp only [List.nil_append, List.cons_append, List.set_cons_zero, List.set_cons_succ, List.length_cons, List.length_nil, Nat.reduceAdd, AV.sh, AV.sh1, AV.sh0, AO.sh, List.map_cons, List.map_nil, Nat.zero_add, Nat.add_zero, setAll])
  | ((apply AOps.splitP; exact rfl; exact rfl) <;> intro h)
  | ((apply AOps.splitN; exact rfl; exact rfl) <;> intro h)
  | (apply w_move; exact rfl; exact rfl)
  | (apply w_assign; exact rfl; exact rfl)
  | apply AWp.seq
  | apply AWp.region
  | ((apply AWp.condP; exact rfl) <;> intro h)
  | ((apply AWp.condN; exact rfl) <;> intro h)
  | (apply AWp.condT; exact rfl)
  | (apply AWp.condF; exact rfl)
  | ((apply AWp.condB; exact rfl) <;> intro h)
  | apply AWp.block
  | apply AWp.ret
  | apply AWp.exit
  | apply AWp.skip
  | (apply if_pos'; exact rfl)
  | (apply if_neg'; decide)
  | (apply w_skip; exact rfl)
  | (apply w_pickT; exact rfl; exact rfl; exact rfl)
  | (apply w_pickF; exact rfl; exact rfl; exact rfl)
  | (apply w_len; exact rfl; exact rfl; first | exact .ints _ | exact .intss _ | exact .sli rfl | exact .sls rfl | exact .slr rfl | exact .orow rfl | exact .nil)
  | (apply w_callm (htm); (focus ((repeat (first | exact im_nil | refine im_cons rfl (.val _) ?_ | refine im_cons rfl (.ints _) ?_ | refine im_cons rfl (.intss _) ?_ | refine im_cons rfl (.sls rfl) ?_ | refine im_cons rfl (im_agg1 (.intss _)) ?_ | refine im_cons rfl (im_agg1 (.sls rfl)) ?_ | refine im_cons rfl (im_agg1 (.nils)) ?_)); done)); rintro r os0 ⟨rfl, rfl⟩; try simp only [List.nil_append, List.cons_append, List.set_cons_zero, List.set_cons_succ, List.length_cons, List.length_nil, Nat.reduceAdd, AV.sh, AV.sh1, AV.sh0, AO.sh, List.map_cons, List.map_nil, Nat.zero_add, Nat.add_zero, setAll])
  | omega
  | ((first | apply w_lss | apply w_leq | apply w_gtr | apply w_geq | apply w_eql | apply w_neq | apply w_add | apply w_sub | apply w_mul | apply w_idx | apply w_ld | apply w_fld | apply w_fa | apply w_extv); iterate 3 exact rfl)
  | ((first | apply w_eqlb | apply w_neqb | apply w_idxs | apply w_lds | apply w_ext); iterate 3 exact rfl)
  | (apply w_rem; exact rfl; exact rfl; exact rfl; (focus (omega; done)); (focus (omega; done)))
  | (apply w_remT; exact rfl; exact rfl; exact rfl)
  | ((first | apply w_not | apply w_build0 | apply w_boxa); iterate 2 exact rfl)
  | (apply w_idxo; exact rfl; exact rfl; (first | exact .sli rfl | exact .sls rfl | exact .slr rfl); exact rfl)
  | ((first | apply w_idxr | apply w_ldr); iterate 4 exact rfl)
  | (apply w_ldo; iterate 4 exact rfl)
  | (apply w_ldls; iterate 4 exact rfl)
  | (apply w_ldrp; iterate 4 exact rfl)
  | (apply w_ldb; iterate 5 exact rfl)
  | (apply w_ldst; iterate 5 exact rfl)
  | (apply w_build1; exact rfl; exact rfl; (first | exact one_val rfl rfl | exact one_ints | exact one_intss | exact one_own rfl True.intro))
  | (apply w_alst; iterate 2 exact rfl)
  | (apply w_alone; iterate 3 exact rfl)
  | (apply w_stst; iterate 5 exact rfl)
  | (apply w_stbv; iterate 6 exact rfl)
  | (apply w_stbi; iterate 4 exact rfl)
  | (apply w_stbo; exact rfl; exact rfl; exact rfl; exact rfl; exact rfl; exact True.intro)
  | ((apply AOps.splitB; exact rfl; exact rfl) <;> intro h)
  | apply AllOf.nil
  | (apply AllOf.cons; exact rfl)
  | (apply AAny.take; exact rfl; exact rfl; kernel_rfl; kernel_rfl)
  | (apply AAny.all; exact rfl)
  | (apply AAny.done; exact rfl)
  | (apply inI_of <;> omega)
  | omega
  | (simp <;> omega))
        refine ⟨k + 1, hk2, by omega, ?_⟩
        (first | (apply Or.inl; refine ⟨lee rfl ?_, ?_, rfl, rfl⟩; (focus ((repeat (first | exact le_nil | refine le_eq rfl rfl ?_ | (refine le_eq rfl (congrArg AV.i ?_) ?_; (focus (omega; done))))); done)); (focus ((repeat (first | exact lo_nil | refine lo_dead ?_ | refine lo_eq rfl ?_)); done))) | (apply Or.inr; refine ⟨[0, 1, 2, 3, 4, 5, 6, 7, 8, 9, 10, 13, 12], ⟨by decide, fun x hx => Nat.lt_of_lt_of_le ((by decide : ∀ x ∈ ([0, 1, 2, 3, 4, 5, 6, 7, 8, 9, 10, 13, 12] : List Nat), x < 14) x hx) (Nat.le_of_ble_eq_true rfl)⟩, lee rfl ?_, ?_, rfl, rfl⟩; (focus ((repeat (first | exact le_nil | refine le_eq rfl rfl ?_ | (refine le_eq rfl (congrArg AV.i ?_) ?_; (focus (omega; done))))); done)); (focus ((repeat (first | exact lo_nil | refine lo_dead ?_ | refine lo_eq rfl ?_)); done))))
      have ek : k = t1 f 0 := by omega
      subst ek
      have hinv := lc_inv hf ha hb hc hd h16 0 (by omega)
      have hsum := l17SumG_c (lcL f a b c d 0) (ptL 0 (frm c d) (ptL 0 (frm a b) [[0, 0, geti (gets f ((0 : Nat) : Int)) 2]] (t0 f 0)) (t1 f 0)) hinv (by omega) htk.1 (by omega) 1 (by omega)
      repeat' (first
  | (apply AOps.nil; try simp only [List.nil_append, List.cons_append, List.set_cons_zero, List.set_cons_succ, List.length_cons, List.length_nil, Nat.reduceAdd, AV.sh, AV.sh1, AV.sh0, AO.sh, List.map_cons, List.map_nil, Nat.zero_add, Nat.add_zero, setAll])
  | ((apply AOps.splitP; exact rfl; exact rfl) <;> intro h)
  | ((apply AOps.splitN; exact rfl; exact rfl) <;> intro h)
  | (apply w_move; exact rfl; exact rfl)
  | (apply w_assign; exact rfl; exact rfl)
  | apply AWp.seq
  | apply AWp.region
  | ((apply AWp.condP; exact rfl) <;> intro h)
  | ((apply AWp.condN; exact rfl) <;> intro h)
  | (apply AWp.condT; exact rfl)
  | (apply AWp.condF; exact rfl)
  | ((apply AWp.condB; exact rfl) <;> intro h)
  | apply AWp.block
  | apply AWp.ret
  | apply AWp.exit
  | apply AWp.skip
  | (apply if_pos'; exact rfl)
  | (apply if_neg'; decide)
  | (apply w_skip; exact rfl)
  | (apply w_pickT; exact rfl; exact rfl; exact rfl)
  | (apply w_pickF; exact rfl; exact rfl; exact rfl)
  | (apply w_len; exact rfl; exact rfl; first | exact .ints _ | exact .intss _ | exact .sli rfl | exact .sls rfl | exact .slr rfl | exact .orow rfl | exact .nil)
  | (apply w_callm (hsum); (focus ((repeat (first | exact im_nil | refine im_cons rfl (.val _) ?_ | refine im_cons rfl (.ints _) ?_ | refine im_cons rfl (.intss _) ?_ | refine im_cons rfl (.sls rfl) ?_ | refine im_cons rfl (im_agg1 (.intss _)) ?_ | refine im_cons rfl (im_agg1 (.sls rfl)) ?_ | refine im_cons rfl (im_agg1 (.nils)) ?_)); done)); rintro r os0 ⟨rfl, rfl⟩; try simp only [List.nil_append, List.cons_append, List.set_cons_zero, List.set_cons_succ, List.length_cons, List.length_nil, Nat.reduceAdd, AV.sh, AV.sh1, AV.sh0, AO.sh, List.map_cons, List.map_nil, Nat.zero_add, Nat.add_zero, setAll])
  | omega
  | ((first | apply w_lss | apply w_leq | apply w_gtr | apply w_geq | apply w_eql | apply w_neq | apply w_add | apply w_sub | apply w_mul | apply w_idx | apply w_ld | apply w_fld | apply w_fa | apply w_extv); iterate 3 exact rfl)
  | ((first | apply w_eqlb | apply w_neqb | apply w_idxs | apply w_lds | apply w_ext); iterate 3 exact rfl)
  | (apply w_rem; exact rfl; exact rfl; exact rfl; (focus (omega; done)); (focus (omega; done)))
  | (apply w_remT; exact rfl; exact rfl; exact rfl)
  | ((first | apply w_not | apply w_build0 | apply w_boxa); iterate 2 exact rfl)
  | (apply w_idxo; exact rfl; exact rfl; (first | exact .sli rfl | exact .sls rfl | exact .slr rfl); exact rfl)
  | ((first | apply w_idxr | apply w_ldr); iterate 4 exact rfl)
  | (apply w_ldo; iterate 4 exact rfl)
  | (apply w_ldls; iterate 4 exact rfl)
  | (apply w_ldrp; iterate 4 exact rfl)
  | (apply w_ldb; iterate 5 exact rfl)
  | (apply w_ldst; iterate 5 exact rfl)
  | (apply w_build1; exact rfl; exact rfl; (first | exact one_val rfl rfl | exact one_ints | exact one_intss | exact one_own rfl True.intro))
  | (apply w_alst; iterate 2 exact rfl)
  | (apply w_alone; iterate 3 exact rfl)
  | (apply w_stst; iterate 5 exact rfl)
  | (apply w_stbv; iterate 6 exact rfl)
  | (apply w_stbi; iterate 4 exact rfl)
  | (apply w_stbo; exact rfl; exact rfl; exact rfl; exact rfl; exact rfl; exact True.intro)
  | ((apply AOps.splitB; exact rfl; exact rfl) <;> intro h)
  | apply AllOf.nil
  | (apply AllOf.cons; exact rfl)
  | (apply AAny.take; exact rfl; exact rfl; kernel_rfl; kernel_rfl)
  | (apply AAny.all; exact rfl)
  | (apply AAny.done; exact rfl)
  | (apply inI_of <;> omega)
  | omega
  | (simp <;> omega))
      refine ⟨0 + 1, hi, by omega, ?_⟩
      (first | (apply Or.inl; refine ⟨lee rfl ?_, ?_, rfl, rfl⟩; (focus ((repeat (first | exact le_nil | refine le_eq rfl rfl ?_ | (refine le_eq rfl (congrArg AV.i ?_) ?_; (focus (omega; done))))); done)); (focus ((repeat (first | exact lo_nil | refine lo_dead ?_ | refine lo_eq rfl ?_)); done))) | (apply Or.inr; refine ⟨[0, 1, 2, 3, 4, 5, 6, 7, 8, 9, 13], ⟨by decide, fun x hx => Nat.lt_of_lt_of_le ((by decide : ∀ x ∈ ([0, 1, 2, 3, 4, 5, 6, 7, 8, 9, 13] : List Nat), x < 14) x hx) (Nat.le_of_ble_eq_true rfl)⟩, lee rfl ?_, ?_, rfl, rfl⟩; (focus ((repeat (first | exact le_nil | refine le_eq rfl rfl ?_ | (refine le_eq rfl (congrArg AV.i ?_) ?_; (focus (omega; done))))); done)); (focus ((repeat (first | exact lo_nil | refine lo_dead ?_ | refine lo_eq rfl ?_)); done))))
    | succ i =>
      dsimp only
      by_cases hi : i + 1 < f.length
      case neg =>
        have e : i + 1 = f.length := by omega
        have hinv := lc_inv hf ha hb hc hd h16 f.length (by omega)
        have hown := l01Own2_c (lcL f a b c d (i + 1)) (by rw [e]; have := hinv.len; omega) (fun d hd => by rw [e] at hd; have := (hinv.nz d hd).1.1; omega)
        repeat' (first
  | (apply AOps.nil; try simp only [List.nil_append, List.cons_append, List.set_cons_zero, List.set_cons_succ, List.length_cons, List.length_nil, Nat.reduceAdd, AV.sh, AV.sh1, AV.sh0, AO.sh, List.map_cons, List.map_nil, Nat.zero_add, Nat.add_zero, setAll])
  | ((apply AOps.splitP; exact rfl; exact rfl) <;> intro h)
  | ((apply AOps.splitN; exact rfl; exact rfl) <;> intro h)
  | (apply w_move; exact rfl; exact rfl)
  | (apply w_assign; exact rfl; exact rfl)
  | apply AWp.seq
  | apply AWp.region
  | ((apply AWp.condP; exact rfl) <;> intro h)
  | ((apply AWp.condN; exact rfl) <;> intro h)
  | (apply AWp.condT; exact rfl)
  | (apply AWp.condF; exact rfl)
  | ((apply AWp.condB; exact rfl) <;> intro h)
  | apply AWp.block
  | apply AWp.ret
  | apply AWp.exit
  | apply AWp.skip
  | (apply if_pos'; exact rfl)
  | (apply if_neg'; decide)
  | (apply w_skip; exact rfl)
  | (apply w_pickT; exact rfl; exact rfl; exact rfl)
  | (apply w_pickF; exact rfl; exact rfl; exact rfl)
  | (apply w_len; exact rfl; exact rfl; first | exact .ints _ | exact .intss _ | exact .sli rfl | exact .sls rfl | exact .slr rfl | exact .orow rfl | exact .nil)
  | (apply w_callm (hown); (focus ((repeat (first | exact im_nil | refine im_cons rfl (.val _) ?_ | refine im_cons rfl (.ints _) ?_ | refine im_cons rfl (.intss _) ?_ | refine im_cons rfl (.sls rfl) ?_ | refine im_cons rfl (im_agg1 (.intss _)) ?_ | refine im_cons rfl (im_agg1 (.sls rfl)) ?_ | refine im_cons rfl (im_agg1 (.nils)) ?_)); done)); rintro r os0 ⟨rfl, rfl⟩; try simp only [List.nil_append, List.cons_append, List.set_cons_zero, List.set_cons_succ, List.length_cons, List.length_nil, Nat.reduceAdd, AV.sh, AV.sh1, AV.sh0, AO.sh, List.map_cons, List.map_nil, Nat.zero_add, Nat.add_zero, setAll])
  | omega
  | ((first | apply w_lss | apply w_leq | apply w_gtr | apply w_geq | apply w_eql | apply w_neq | apply w_add | apply w_sub | apply w_mul | apply w_idx | apply w_ld | apply w_fld | apply w_fa | apply w_extv); iterate 3 exact rfl)
  | ((first | apply w_eqlb | apply w_neqb | apply w_idxs | apply w_lds | apply w_ext); iterate 3 exact rfl)
  | (apply w_rem; exact rfl; exact rfl; exact rfl; (focus (omega; done)); (focus (omega; done)))
  | (apply w_remT; exact rfl; exact rfl; exact rfl)
  | ((first | apply w_not | apply w_build0 | apply w_boxa); iterate 2 exact rfl)
  | (apply w_idxo; exact rfl; exact rfl; (first | exact .sli rfl | exact .sls rfl | exact .slr rfl); exact rfl)
  | ((first | apply w_idxr | apply w_ldr); iterate 4 exact rfl)
  | (apply w_ldo; iterate 4 exact rfl)
  | (apply w_ldls; iterate 4 exact rfl)
  | (apply w_ldrp; iterate 4 exact rfl)
  | (apply w_ldb; iterate 5 exact rfl)
  | (apply w_ldst; iterate 5 exact rfl)
  | (apply w_build1; exact rfl; exact rfl; (first | exact one_val rfl rfl | exact one_ints | exact one_intss | exact one_own rfl True.intro))
  | (apply w_alst; iterate 2 exact rfl)
  | (apply w_alone; iterate 3 exact rfl)
  | (apply w_stst; iterate 5 exact rfl)
  | (apply w_stbv; iterate 6 exact rfl)
  | (apply w_stbi; iterate 4 exact rfl)
  | (apply w_stbo; exact rfl; exact rfl; exact rfl; exact rfl; exact rfl; exact True.intro)
  | ((apply AOps.splitB; exact rfl; exact rfl) <;> intro h)
  | apply AllOf.nil
  | (apply AllOf.cons; exact rfl)
  | (apply AAny.take; exact rfl; exact rfl; kernel_rfl; kernel_rfl)
  | (apply AAny.all; exact rfl)
  | (apply AAny.done; exact rfl)
  | (apply inI_of <;> omega)
  | omega
  | (simp <;> omega))
        rw [← e]
        exact ⟨_, _, _, .c1u Try.results18 rfl rfl rfl rfl, .tup2 (.agg1 (.sls rfl)), rfl, rfl⟩
      obtain ⟨y1, y2, y3, y4, _⟩ := (isPo_of hf).2 (i + 1) hi
      have hh := h16 (i + 1) hi
      have e0 : (t0 f (i + 1) : Int) = geti (gets f (((i + 1) : Nat) : Int)) 0 := by unfold t0; omega
      have e1 : (t1 f (i + 1) : Int) = geti (gets f (((i + 1) : Nat) : Int)) 1 := by unfold t1; omega
      have hp1 : ∀ k, k ≤ t0 f (i + 1) → PtI (0 + k) (ptL 0 (frm a b) [[0, 0, geti (gets f (((i + 1) : Nat) : Int)) 2]] k) (itF a b (dlt (geti (gets f (((i + 1) : Nat) : Int)) 2)) k) := fun k hk => pt_all ha hb (pt_one y4) k (by omega)
      have hp2 : ∀ k, k ≤ t1 f (i + 1) → PtI (0 + t0 f (i + 1) + k) (ptL 0 (frm c d) (ptL 0 (frm a b) [[0, 0, geti (gets f (((i + 1) : Nat) : Int)) 2]] (t0 f (i + 1))) k) (itF c d (itF a b (dlt (geti (gets f (((i + 1) : Nat) : Int)) 2)) (t0 f (i + 1))) k) := fun k hk => pt_all hc hd (hp1 _ (Nat.le_refl _)) k (by omega)
      repeat' (first
  | (apply AOps.nil; try simp only [List.nil_append, List.cons_append, List.set_cons_zero, List.set_cons_succ, List.length_cons, List.length_nil, Nat.reduceAdd, AV.sh, AV.sh1, AV.sh0, AO.sh, List.map_cons, List.map_nil, Nat.zero_add, Nat.add_zero, setAll])
  | ((apply AOps.splitP; exact rfl; exact rfl) <;> intro h)
  | ((apply AOps.splitN; exact rfl; exact rfl) <;> intro h)
  | (apply w_move; exact rfl; exact rfl)
  | (apply w_assign; exact rfl; exact rfl)
  | apply AWp.seq
  | apply AWp.region
  | ((apply AWp.condP; exact rfl) <;> intro h)
  | ((apply AWp.condN; exact rfl) <;> intro h)
  | (apply AWp.condT; exact rfl)
  | (apply AWp.condF; exact rfl)
  | ((apply AWp.condB; exact rfl) <;> intro h)
  | apply AWp.block
  | apply AWp.ret
  | apply AWp.exit
  | apply AWp.skip
  | (apply if_pos'; exact rfl)
  | (apply if_neg'; decide)
  | (apply w_skip; exact rfl)
  | (apply w_pickT; exact rfl; exact rfl; exact rfl)
  | (apply w_pickF; exact rfl; exact rfl; exact rfl)
  | (apply w_len; exact rfl; exact rfl; first | exact .ints _ | exact .intss _ | exact .sli rfl | exact .sls rfl | exact .slr rfl | exact .orow rfl | exact .nil)
  | (apply w_bsr1s; exact rfl; exact rfl; exact rfl; exact rfl; simp only [Env.mp, List.map_cons, List.map_nil, List.set_cons_zero, List.set_cons_succ, AV.kill, AV.kill1, AO.kill, AV.rin, AV.rin1, AV.noRow, AV.noRow1, AO.via, reduceIte, Nat.reduceEqDiff, Nat.reduceLT, Env.up, Nat.zero_ne_one, Nat.one_ne_zero, Nat.reduceAdd, List.cons_append, List.nil_append])
  | ((first | apply w_slshi | apply w_slslo | apply w_bs3 | apply w_stbi); iterate 4 exact rfl)
  | (apply w_storp; exact rfl; exact rfl; rotate_left 2; exact rfl; rotate_left 2)
  | omega
  | ((first | apply w_lss | apply w_leq | apply w_gtr | apply w_geq | apply w_eql | apply w_neq | apply w_add | apply w_sub | apply w_mul | apply w_idx | apply w_ld | apply w_fld | apply w_fa | apply w_extv); iterate 3 exact rfl)
  | ((first | apply w_eqlb | apply w_neqb | apply w_idxs | apply w_lds | apply w_ext); iterate 3 exact rfl)
  | (apply w_rem; exact rfl; exact rfl; exact rfl; (focus (omega; done)); (focus (omega; done)))
  | (apply w_remT; exact rfl; exact rfl; exact rfl)
  | ((first | apply w_not | apply w_build0 | apply w_boxa); iterate 2 exact rfl)
  | (apply w_idxo; exact rfl; exact rfl; (first | exact .sli rfl | exact .sls rfl | exact .slr rfl); exact rfl)
  | ((first | apply w_idxr | apply w_ldr); iterate 4 exact rfl)
  | (apply w_ldo; iterate 4 exact rfl)
  | (apply w_ldls; iterate 4 exact rfl)
  | (apply w_ldrp; iterate 4 exact rfl)
  | (apply w_ldb; iterate 5 exact rfl)
  | (apply w_ldst; iterate 5 exact rfl)
  | (apply w_build1; exact rfl; exact rfl; (first | exact one_val rfl rfl | exact one_ints | exact one_intss | exact one_own rfl True.intro))
  | (apply w_alst; iterate 2 exact rfl)
  | (apply w_alone; iterate 3 exact rfl)
  | (apply w_stst; iterate 5 exact rfl)
  | (apply w_stbv; iterate 6 exact rfl)
  | (apply w_stbo; exact rfl; exact rfl; exact rfl; exact rfl; exact rfl; exact True.intro)
  | ((apply AOps.splitB; exact rfl; exact rfl) <;> intro h)
  | apply AllOf.nil
  | (apply AllOf.cons; exact rfl)
  | (apply AAny.take; exact rfl; exact rfl; kernel_rfl; kernel_rfl)
  | (apply AAny.all; exact rfl)
  | (apply AAny.done; exact rfl)
  | (apply inI_of <;> omega)
  | omega
  | (simp <;> omega))
      refine AWp.loopS (ι := Nat) (fun k => ⟨142, [(5, .optr 0 0), (10, .optr 1 0), (11, .i 0), (15, .optr 7 0), (16, .optr 8 0), (17, .optr 9 0), (18, .i (((i + 1) : Nat) : Int)), (19, .optr 13 0), (20, .i k)]⟩) (fun k => [.bx 26 [.intss f], .bx 26 [.val (.slice none 0 0)], .sli 2 [a, b, c, d], .sls 52 2 (frm a b), .dead, .sls 52 2 (frm c d), .dead, .bx 26 [.own 3], .bx 26 [.own 5], .bx 26 [.own 10], .sls 52 2 (lcL f a b c d (i + 1)), .dead, .sls 52 2 (ptL 0 (frm a b) [[0, 0, geti (gets f (((i + 1) : Nat) : Int)) 2]] k), .bx 26 [.own 12]]) (fun k => k ≤ t0 f (i + 1)) (fun k => t0 f (i + 1) - k) 0 (by omega) ⟨lee rfl (by (repeat (first | exact le_nil | refine le_eq rfl rfl ?_ | refine le_eq rfl (congrArg AV.i (by omega)) ?_))), by (repeat (first | exact lo_nil | refine lo_dead ?_ | refine lo_eq rfl ?_)), rfl, rfl⟩ ?_
      intro k hk0
      have hpk := hp1 k hk0
      have htk := hpk.te (by omega)
      have htm := l17Times_c (ptL 0 (frm a b) [[0, 0, geti (gets f (((i + 1) : Nat) : Int)) 2]] k) (frm a b) htk.1 (frm_te ha hb).1 (by omega) (by have := (frm_te ha hb).2; omega)
      by_cases hk2 : k < t0 f (i + 1)
      · repeat' (first
  | (apply AOps.nil; try simp only [List.nil_append, List.cons_append, List.set_cons_zero, List.set_cons_succ, List.length_cons, List.length_nil, Nat.reduceAdd, AV.sh, AV.sh1, AV.sh0, AO.sh, List.map_cons, List.map_nil, Nat.zero_add, Nat.add_zero, setAll])
  | ((apply AOps.splitP; exact rfl; exact rfl) <;> intro h)
  | ((apply AOps.splitN; exact rfl; exact rfl) <;> intro h)
  | (apply w_move; exact rfl; exact rfl)
  | (apply w_assign; exact rfl; exact rfl)
  | apply AWp.seq
  | apply AWp.region
  | ((apply AWp.condP; exact rfl) <;> intro h)
  | ((apply AWp.condN; exact rfl) <;> intro h)
  | (apply AWp.condT; exact rfl)
  | (apply AWp.condF; exact rfl)
  | ((apply AWp.condB; exact rfl) <;> intro h)
  | apply AWp.block
  | apply AWp.ret
  | apply AWp.exit
  | apply AWp.skip
  | (apply if_pos'; exact rfl)
  | (apply if_neg'; decide)
  | (apply w_skip; exact rfl)
  | (apply w_pickT; exact rfl; exact rfl; exact rfl)
  | (apply w_pickF; exact rfl; exact rfl; exact rfl)
  | (apply w_len; exact rfl; exact rfl; first | exact .ints _ | exact .intss _ | exact .sli rfl | exact .sls rfl | exact .slr rfl | exact .orow rfl | exact .nil)
  | (apply w_callm (htm); (focus ((repeat (first | exact im_nil | refine im_cons rfl (.val _) ?_ | refine im_cons rfl (.ints _) ?_ | refine im_cons rfl (.intss _) ?_ | refine im_cons rfl (.sls rfl) ?_ | refine im_cons rfl (im_agg1 (.intss _)) ?_ | refine im_cons rfl (im_agg1 (.sls rfl)) ?_ | refine im_cons rfl (im_agg1 (.nils)) ?_)); done)); rintro r os0 ⟨rfl, rfl⟩; try simp only [List.nil_append, List.cons_append, List.set_cons_zero, List.set_cons_succ, List.length_cons, List.length_nil, Nat.reduceAdd, AV.sh, AV.sh1, AV.sh0, AO.sh, List.map_cons, List.map_nil, Nat.zero_add, Nat.add_zero, setAll])
  | omega
  | ((first | apply w_lss | apply w_leq | apply w_gtr | apply w_geq | apply w_eql | apply w_neq | apply w_add | apply w_sub | apply w_mul | apply w_idx | apply w_ld | apply w_fld | apply w_fa | apply w_extv); iterate 3 exact rfl)
  | ((first | apply w_eqlb | apply w_neqb | apply w_idxs | apply w_lds | apply w_ext); iterate 3 exact rfl)
  | (apply w_rem; exact rfl; exact rfl; exact rfl; (focus (omega; done)); (focus (omega; done)))
  | (apply w_remT; exact rfl; exact rfl; exact rfl)
  | ((first | apply w_not | apply w_build0 | apply w_boxa); iterate 2 exact rfl)
  | (apply w_idxo; exact rfl; exact rfl; (first | exact .sli rfl | exact .sls rfl | exact .slr rfl); exact rfl)
  | ((first | apply w_idxr | apply w_ldr); iterate 4 exact rfl)
  | (apply w_ldo; iterate 4 exact rfl)
  | (apply w_ldls; iterate 4 exact rfl)
  | (apply w_ldrp; iterate 4 exact rfl)
  | (apply w_ldb; iterate 5 exact rfl)
  | (apply w_ldst; iterate 5 exact rfl)
  | (apply w_build1; exact rfl; exact rfl; (first | exact one_val rfl rfl | exact one_ints | exact one_intss | exact one_own rfl True.intro))
  | (apply w_alst; iterate 2 exact rfl)
  | (apply w_alone; iterate 3 exact rfl)
  | (apply w_stst; iterate 5 exact rfl)
  | (apply w_stbv; iterate 6 exact rfl)
  | (apply w_stbi; iterate 4 exact rfl)
  | (apply w_stbo; exact rfl; exact rfl; exact rfl; exact rfl; exact rfl; exact True.intro)
  | ((apply AOps.splitB; exact rfl; exact rfl) <;> intro h)
  | apply AllOf.nil
  | (apply AllOf.cons; exact rfl)
  | (apply AAny.take; exact rfl; exact rfl; kernel_rfl; kernel_rfl)
  | (apply AAny.all; exact rfl)
  | (apply AAny.done; exact rfl)
  | (apply inI_of <;> omega)
  | omega
  | (simp <;> omega))
        refine ⟨k + 1, hk2, by omega, ?_⟩
        (first | (apply Or.inl; refine ⟨lee rfl ?_, ?_, rfl, rfl⟩; (focus ((repeat (first | exact le_nil | refine le_eq rfl rfl ?_ | (refine le_eq rfl (congrArg AV.i ?_) ?_; (focus (omega; done))))); done)); (focus ((repeat (first | exact lo_nil | refine lo_dead ?_ | refine lo_eq rfl ?_)); done))) | (apply Or.inr; refine ⟨[0, 1, 2, 3, 4, 5, 6, 7, 8, 9, 10, 11, 14, 13], ⟨by decide, fun x hx => Nat.lt_of_lt_of_le ((by decide : ∀ x ∈ ([0, 1, 2, 3, 4, 5, 6, 7, 8, 9, 10, 11, 14, 13] : List Nat), x < 15) x hx) (Nat.le_of_ble_eq_true rfl)⟩, lee rfl ?_, ?_, rfl, rfl⟩; (focus ((repeat (first | exact le_nil | refine le_eq rfl rfl ?_ | (refine le_eq rfl (congrArg AV.i ?_) ?_; (focus (omega; done))))); done)); (focus ((repeat (first | exact lo_nil | refine lo_dead ?_ | refine lo_eq rfl ?_)); done))))
      have ek : k = t0 f (i + 1) := by omega
      subst ek
      repeat' (first
  | (apply AOps.nil; try simp only [List.nil_append, List.cons_append, List.set_cons_zero, List.set_cons_succ, List.length_cons, List.length_nil, Nat.reduceAdd, AV.sh, AV.sh1, AV.sh0, AO.sh, List.map_cons, List.map_nil, Nat.zero_add, Nat.add_zero, setAll])
  | ((apply AOps.splitP; exact rfl; exact rfl) <;> intro h)
  | ((apply AOps.splitN; exact rfl; exact rfl) <;> intro h)
  | (apply w_move; exact rfl; exact rfl)
  | (apply w_assign; exact rfl; exact rfl)
  | apply AWp.seq
  | apply AWp.region
  | ((apply AWp.condP; exact rfl) <;> intro h)
  | ((apply AWp.condN; exact rfl) <;> intro h)
  | (apply AWp.condT; exact rfl)
  | (apply AWp.condF; exact rfl)
  | ((apply AWp.condB; exact rfl) <;> intro h)
  | apply AWp.block
  | apply AWp.ret
  | apply AWp.exit
  | apply AWp.skip
  | (apply if_pos'; exact rfl)
  | (apply if_neg'; decide)
  | (apply w_skip; exact rfl)
  | (apply w_pickT; exact rfl; exact rfl; exact rfl)
  | (apply w_pickF; exact rfl; exact rfl; exact rfl)
  | (apply w_len; exact rfl; exact rfl; first | exact .ints _ | exact .intss _ | exact .sli rfl | exact .sls rfl | exact .slr rfl | exact .orow rfl | exact .nil)
  | omega
  | ((first | apply w_lss | apply w_leq | apply w_gtr | apply w_geq | apply w_eql | apply w_neq | apply w_add | apply w_sub | apply w_mul | apply w_idx | apply w_ld | apply w_fld | apply w_fa | apply w_extv); iterate 3 exact rfl)
  | ((first | apply w_eqlb | apply w_neqb | apply w_idxs | apply w_lds | apply w_ext); iterate 3 exact rfl)
  | (apply w_rem; exact rfl; exact rfl; exact rfl; (focus (omega; done)); (focus (omega; done)))
  | (apply w_remT; exact rfl; exact rfl; exact rfl)
  | ((first | apply w_not | apply w_build0 | apply w_boxa); iterate 2 exact rfl)
  | (apply w_idxo; exact rfl; exact rfl; (first | exact .sli rfl | exact .sls rfl | exact .slr rfl); exact rfl)
  | ((first | apply w_idxr | apply w_ldr); iterate 4 exact rfl)
  | (apply w_ldo; iterate 4 exact rfl)
  | (apply w_ldls; iterate 4 exact rfl)
  | (apply w_ldrp; iterate 4 exact rfl)
  | (apply w_ldb; iterate 5 exact rfl)
  | (apply w_ldst; iterate 5 exact rfl)
  | (apply w_build1; exact rfl; exact rfl; (first | exact one_val rfl rfl | exact one_ints | exact one_intss | exact one_own rfl True.intro))
  | (apply w_alst; iterate 2 exact rfl)
  | (apply w_alone; iterate 3 exact rfl)
  | (apply w_stst; iterate 5 exact rfl)
  | (apply w_stbv; iterate 6 exact rfl)
  | (apply w_stbi; iterate 4 exact rfl)
  | (apply w_stbo; exact rfl; exact rfl; exact rfl; exact rfl; exact rfl; exact True.intro)
  | ((apply AOps.splitB; exact rfl; exact rfl) <;> intro h)
  | apply AllOf.nil
  | (apply AllOf.cons; exact rfl)
  | (apply AAny.take; exact rfl; exact rfl; kernel_rfl; kernel_rfl)
  | (apply AAny.all; exact rfl)
  | (apply AAny.done; exact rfl)
  | (apply inI_of <;> omega)
  | omega
  | (simp <;> omega))
      refine AWp.loopS (ι := Nat) (fun k => ⟨142, [(5, .optr 0 0), (10, .optr 1 0), (11, .i 0), (15, .optr 7 0), (16, .optr 8 0), (17, .optr 9 0), (18, .i (((i + 1) : Nat) : Int)), (19, .optr 13 0), (21, .i k)]⟩) (fun k => [.bx 26 [.intss f], .bx 26 [.val (.slice none 0 0)], .sli 2 [a, b, c, d], .sls 52 2 (frm a b), .dead, .sls 52 2 (frm c d), .dead, .bx 26 [.own 3], .bx 26 [.own 5], .bx 26 [.own 10], .sls 52 2 (lcL f a b c d (i + 1)), .dead, .sls 52 2 (ptL 0 (frm c d) (ptL 0 (frm a b) [[0, 0, geti (gets f (((i + 1) : Nat) : Int)) 2]] (t0 f (i + 1))) k), .bx 26 [.own 12]]) (fun k => k ≤ t1 f (i + 1)) (fun k => t1 f (i + 1) - k) 0 (by omega) ⟨lee rfl (by (repeat (first | exact le_nil | refine le_eq rfl rfl ?_ | refine le_eq rfl (congrArg AV.i (by omega)) ?_))), by (repeat (first | exact lo_nil | refine lo_dead ?_ | refine lo_eq rfl ?_)), rfl, rfl⟩ ?_
      intro k hk0
      have hpk := hp2 k hk0
      have htk := hpk.te (by omega)
      have htm := l17Times_c (ptL 0 (frm c d) (ptL 0 (frm a b) [[0, 0, geti (gets f (((i + 1) : Nat) : Int)) 2]] (t0 f (i + 1))) k) (frm c d) htk.1 (frm_te hc hd).1 (by omega) (by have := (frm_te hc hd).2; omega)
      by_cases hk2 : k < t1 f (i + 1)
      · repeat' (first
  | (apply AOps.nil; try simp only [List.nil_append, List.cons_append, List.set_cons_zero, List.set_cons_succ, List.length_cons, List.length_nil, Nat.reduceAdd, AV.sh, AV.sh1, AV.sh0, AO.sh, List.map_cons, List.map_nil, Nat.zero_add, Nat.add_zero, setAll])
  | ((apply AOps.splitP; exact rfl; exact rfl) <;> intro h)
  | ((apply AOps.splitN; exact rfl; exact rfl) <;> intro h)
  | (apply w_move; exact rfl; exact rfl)
  | (apply w_assign; exact rfl; exact rfl)
  | apply AWp.seq
  | apply AWp.region
  | ((apply AWp.condP; exact rfl) <;> intro h)
  | ((apply AWp.condN; exact rfl) <;> intro h)
  | (apply AWp.condT; exact rfl)
  | (apply AWp.condF; exact rfl)
  | ((apply AWp.condB; exact rfl) <;> intro h)
  | apply AWp.block
  | apply AWp.ret
  | apply AWp.exit
  | apply AWp.skip
  | (apply if_pos'; exact rfl)
  | (apply if_neg'; decide)
  | (apply w_skip; exact rfl)
  | (apply w_pickT; exact rfl; exact rfl; exact rfl)
  | (apply w_pickF; exact rfl; exact rfl; exact rfl)
  | (apply w_len; exact rfl; exact rfl; first | exact .ints _ | exact .intss _ | exact .sli rfl | exact .sls rfl | exact .slr rfl | exact .orow rfl | exact .nil)
  | (apply w_callm (htm); (focus ((repeat (first | exact im_nil | refine im_cons rfl (.val _) ?_ | refine im_cons rfl (.ints _) ?_ | refine im_cons rfl (.intss _) ?_ | refine im_cons rfl (.sls rfl) ?_ | refine im_cons rfl (im_agg1 (.intss _)) ?_ | refine im_cons rfl (im_agg1 (.sls rfl)) ?_ | refine im_cons rfl (im_agg1 (.nils)) ?_)); done)); rintro r os0 ⟨rfl, rfl⟩; try simp only [List.nil_append, List.cons_append, List.set_cons_zero, List.set_cons_succ, List.length_cons, List.length_nil, Nat.reduceAdd, AV.sh, AV.sh1, AV.sh0, AO.sh, List.map_cons, List.map_nil, Nat.zero_add, Nat.add_zero, setAll])
  | omega
  | ((first | apply w_lss | apply w_leq | apply w_gtr | apply w_geq | apply w_eql | apply w_neq | apply w_add | apply w_sub | apply w_mul | apply w_idx | apply w_ld | apply w_fld | apply w_fa | apply w_extv); iterate 3 exact rfl)
  | ((first | apply w_eqlb | apply w_neqb | apply w_idxs | apply w_lds | apply w_ext); iterate 3 exact rfl)
  | (apply w_rem; exact rfl; exact rfl; exact rfl; (focus (omega; done)); (focus (omega; done)))
  | (apply w_remT; exact rfl; exact rfl; exact rfl)
  | ((first | apply w_not | apply w_build0 | apply w_boxa); iterate 2 exact rfl)
  | (apply w_idxo; exact rfl; exact rfl; (first | exact .sli rfl | exact .sls rfl | exact .slr rfl); exact rfl)
  | ((first | apply w_idxr | apply w_ldr); iterate 4 exact rfl)
  | (apply w_ldo; iterate 4 exact rfl)
  | (apply w_ldls; iterate 4 exact rfl)
  | (apply w_ldrp; iterate 4 exact rfl)
  | (apply w_ldb; iterate 5 exact rfl)
  | (apply w_ldst; iterate 5 exact rfl)
  | (apply w_build1; exact rfl; exact rfl; (first | exact one_val rfl rfl | exact one_ints | exact one_intss | exact one_own rfl True.intro))
  | (apply w_alst; iterate 2 exact rfl)
  | (apply w_alone; iterate 3 exact rfl)
  | (apply w_stst; iterate 5 exact rfl)
  | (apply w_stbv; iterate 6 exact rfl)
  | (apply w_stbi; iterate 4 exact rfl)
  | (apply w_stbo; exact rfl; exact rfl; exact rfl; exact rfl; exact rfl; exact True.intro)
  | ((apply AOps.splitB; exact rfl; exact rfl) <;> intro h)
  | apply AllOf.nil
  | (apply AllOf.cons; exact rfl)
  | (apply AAny.take; exact rfl; exact rfl; kernel_rfl; kernel_rfl)
  | (apply AAny.all; exact rfl)
  | (apply AAny.done; exact rfl)
  | (apply inI_of <;> omega)
  | omega
  | (simp <;> omega))
        refine ⟨k + 1, hk2, by omega, ?_⟩
        (first | (apply Or.inl; refine ⟨lee rfl ?_, ?_, rfl, rfl⟩; (focus ((repeat (first | exact le_nil | refine le_eq rfl rfl ?_ | (refine le_eq rfl (congrArg AV.i ?_) ?_; (focus (omega; done))))); done)); (focus ((repeat (first | exact lo_nil | refine lo_dead ?_ | refine lo_eq rfl ?_)); done))) | (apply Or.inr; refine ⟨[0, 1, 2, 3, 4, 5, 6, 7, 8, 9, 10, 11, 14, 13], ⟨by decide, fun x hx => Nat.lt_of_lt_of_le ((by decide : ∀ x ∈ ([0, 1, 2, 3, 4, 5, 6, 7, 8, 9, 10, 11, 14, 13] : List Nat), x < 15) x hx) (Nat.le_of_ble_eq_true rfl)⟩, lee rfl ?_, ?_, rfl, rfl⟩; (focus ((repeat (first | exact le_nil | refine le_eq rfl rfl ?_ | (refine le_eq rfl (congrArg AV.i ?_) ?_; (focus (omega; done))))); done)); (focus ((repeat (first | exact lo_nil | refine lo_dead ?_ | refine lo_eq rfl ?_)); done))))
      have ek : k = t1 f (i + 1) := by omega
      subst ek
      have hinv := lc_inv hf ha hb hc hd h16 (i + 1) (by omega)
      have hsum := l17SumG_c (lcL f a b c d (i + 1)) (ptL 0 (frm c d) (ptL 0 (frm a b) [[0, 0, geti (gets f (((i + 1) : Nat) : Int)) 2]] (t0 f (i + 1))) (t1 f (i + 1))) hinv (by omega) htk.1 (by omega) 1 (by omega)
      repeat' (first
  | (apply AOps.nil; try simp only [List.nil_append, List.cons_append, List.set_cons_zero, List.set_cons_succ, List.length_cons, List.length_nil, Nat.reduceAdd, AV.sh, AV.sh1, AV.sh0, AO.sh, List.map_cons, List.map_nil, Nat.zero_add, Nat.add_zero, setAll])
  | ((apply AOps.splitP; exact rfl; exact rfl) <;> intro h)
  | ((apply AOps.splitN; exact rfl; exact rfl) <;> intro h)
  | (apply w_move; exact rfl; exact rfl)
  | (apply w_assign; exact rfl; exact rfl)
  | apply AWp.seq
  | apply AWp.region
  | ((apply AWp.condP; exact rfl) <;> intro h)
  | ((apply AWp.condN; exact rfl) <;> intro h)
  | (apply AWp.condT; exact rfl)
  | (apply AWp.condF; exact rfl)
  | ((apply AWp.condB; exact rfl) <;> intro h)
  | apply AWp.block
  | apply AWp.ret
  | apply AWp.exit
  | apply AWp.skip
  | (apply if_pos'; exact rfl)
  | (apply if_neg'; decide)
  | (apply w_skip; exact rfl)
  | (apply w_pickT; exact rfl; exact rfl; exact rfl)
  | (apply w_pickF; exact rfl; exact rfl; exact rfl)
  | (apply w_len; exact rfl; exact rfl; first | exact .ints _ | exact .intss _ | exact .sli rfl | exact .sls rfl | exact .slr rfl | exact .orow rfl | exact .nil)
  | (apply w_callm (hsum); (focus ((repeat (first | exact im_nil | refine im_cons rfl (.val _) ?_ | refine im_cons rfl (.ints _) ?_ | refine im_cons rfl (.intss _) ?_ | refine im_cons rfl (.sls rfl) ?_ | refine im_cons rfl (im_agg1 (.intss _)) ?_ | refine im_cons rfl (im_agg1 (.sls rfl)) ?_ | refine im_cons rfl (im_agg1 (.nils)) ?_)); done)); rintro r os0 ⟨rfl, rfl⟩; try simp only [List.nil_append, List.cons_append, List.set_cons_zero, List.set_cons_succ, List.length_cons, List.length_nil, Nat.reduceAdd, AV.sh, AV.sh1, AV.sh0, AO.sh, List.map_cons, List.map_nil, Nat.zero_add, Nat.add_zero, setAll])
  | omega
  | ((first | apply w_lss | apply w_leq | apply w_gtr | apply w_geq | apply w_eql | apply w_neq | apply w_add | apply w_sub | apply w_mul | apply w_idx | apply w_ld | apply w_fld | apply w_fa | apply w_extv); iterate 3 exact rfl)
  | ((first | apply w_eqlb | apply w_neqb | apply w_idxs | apply w_lds | apply w_ext); iterate 3 exact rfl)
  | (apply w_rem; exact rfl; exact rfl; exact rfl; (focus (omega; done)); (focus (omega; done)))
  | (apply w_remT; exact rfl; exact rfl; exact rfl)
  | ((first | apply w_not | apply w_build0 | apply w_boxa); iterate 2 exact rfl)
  | (apply w_idxo; exact rfl; exact rfl; (first | exact .sli rfl | exact .sls rfl | exact .slr rfl); exact rfl)
  | ((first | apply w_idxr | apply w_ldr); iterate 4 exact rfl)
  | (apply w_ldo; iterate 4 exact rfl)
  | (apply w_ldls; iterate 4 exact rfl)
  | (apply w_ldrp; iterate 4 exact rfl)
  | (apply w_ldb; iterate 5 exact rfl)
  | (apply w_ldst; iterate 5 exact rfl)
  | (apply w_build1; exact rfl; exact rfl; (first | exact one_val rfl rfl | exact one_ints | exact one_intss | exact one_own rfl True.intro))
  | (apply w_alst; iterate 2 exact rfl)
  | (apply w_alone; iterate 3 exact rfl)
  | (apply w_stst; iterate 5 exact rfl)
  | (apply w_stbv; iterate 6 exact rfl)
  | (apply w_stbi; iterate 4 exact rfl)
  | (apply w_stbo; exact rfl; exact rfl; exact rfl; exact rfl; exact rfl; exact True.intro)
  | ((apply AOps.splitB; exact rfl; exact rfl) <;> intro h)
  | apply AllOf.nil
  | (apply AllOf.cons; exact rfl)
  | (apply AAny.take; exact rfl; exact rfl; kernel_rfl; kernel_rfl)
  | (apply AAny.all; exact rfl)
  | (apply AAny.done; exact rfl)
  | (apply inI_of <;> omega)
  | omega
  | (simp <;> omega))
      refine ⟨i + 1 + 1, hi, by omega, ?_⟩
      (first | (apply Or.inl; refine ⟨lee rfl ?_, ?_, rfl, rfl⟩; (focus ((repeat (first | exact le_nil | refine le_eq rfl rfl ?_ | (refine le_eq rfl (congrArg AV.i ?_) ?_; (focus (omega; done))))); done)); (focus ((repeat (first | exact lo_nil | refine lo_dead ?_ | refine lo_eq rfl ?_)); done))) | (apply Or.inr; refine ⟨[0, 1, 2, 3, 4, 5, 6, 7, 8, 9, 14], ⟨by decide, fun x hx => Nat.lt_of_lt_of_le ((by decide : ∀ x ∈ ([0, 1, 2, 3, 4, 5, 6, 7, 8, 9, 14] : List Nat), x < 15) x hx) (Nat.le_of_ble_eq_true rfl)⟩, lee rfl ?_, ?_, rfl, rfl⟩; (focus ((repeat (first | exact le_nil | refine le_eq rfl rfl ?_ | (refine le_eq rfl (congrArg AV.i ?_) ?_; (focus (omega; done))))); done)); (focus ((repeat (first | exact lo_nil | refine lo_dead ?_ | refine lo_eq rfl ?_)); done))))
end Go.Proofs.Ytkickbnahajpoaa
