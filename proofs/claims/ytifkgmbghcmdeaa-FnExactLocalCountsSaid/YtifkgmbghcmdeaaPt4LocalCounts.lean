/-
  Parts of the proof, one behind the other: contracts of functions and plain laws. No condition.
-/
import Derived.OrdersHeld
import Derived.Shelf.SlSortCmp.Whole1
import Derived.Test.YtifkgmbghcmdeaaProg
import Derived.WalkKit
import Derived.Deep.LoopGhost
import Derived.Deep.Draws
import Derived.Lib.Walk
import Derived.Lib.Small
import Derived.Lib.Slices
import Derived.Shelf.RegionOpenPlain
import Derived.Deep.QuietTactic
import Derived.Shelf.Small.Bits
import Derived.Test.YtifkgmbghcmdeaaPt3LocalCounts
/-
  Local algebras: the program's counts up to a degree. No condition but bounds.
-/
namespace Go.Proofs.Ytifkgmbghcmdeaa
open Go Go.RowKit
attribute [local irreducible] AWp AOps ResIs Ret1 QOp LOp COp AFnV AFn Imms LeE LeO
set_option maxHeartbeats 1000000
set_option linter.unusedSimpArgs false
set_option linter.unusedVariables false

/-- The first n counts. -/
def cntL (P : Nat → Bool) : Nat → List Int
  | 0 => []
  | n + 1 => cntL P n ++ [(hcN P n : Int)]
theorem cntL_len (P : Nat → Bool) : ∀ n, (cntL P n).length = n
  | 0 => rfl
  | n + 1 => by simp [cntL, cntL_len P n]
theorem hcN_int (P : Nat → Bool) (d : Nat) : (hcN P d : Int) = (d : Int) + 1 - (tkN P d (d + 1) : Int) := by
  have := tkN_le P d (d + 1)
  unfold hcN; omega
theorem pl_top (M : Nat) (hM : M ≤ 1000) : plI (M : Int) 0 + 1 = (triN (M + 1) : Int) := by
  have := (plI_eq (x := (M : Int)) (y := 0) (by omega) (by omega)).2.1
  rw [this, show ((M : Int) + 0).toNat = M by omega, triN]; omega
theorem pl_deg {d i : Nat} (h : i ≤ d) (hd : d ≤ 1000) : plI (i : Int) ((d : Int) - (i : Int)) = ((triN d + i : Nat) : Int) := by
  have := (plI_eq (x := (i : Int)) (y := (d : Int) - (i : Int)) (by omega) (by omega)).2.1
  rw [this, show ((i : Int) + ((d : Int) - (i : Int))).toNat = d by omega]; omega

set_option maxHeartbeats 16000000 in
theorem countsUpTo_c (fs : List (List (List Int))) (hf : ∀ f ∈ fs, PoO f ∧ f.length ≤ 200) (hn : fs.length ≤ 1000) (M : Nat) (hM : M ≤ 17) : AFn Try.prog 87 [.ro (polsRo fs), .i M] (IsInts 2 (cntL (isLd fs) (M + 1))) := by
  have hM18 : triN (M + 1) ≤ 171 := triN_mono (show M + 1 ≤ 18 by omega)
  have htop := pl_top M (by omega)
  have hcol0 := column_c (M : Int) 0 (by omega) (by omega)
  have htp : 1 ≤ triN (M + 1) := by rw [triN]; omega
  (refine AFn.start Try.func87 Try.ntmps87 rfl (by kernel_rfl) fun hk => ?_; simp only [Env.start, enumF, List.length_cons, List.length_nil, Nat.reduceAdd, Nat.reduceSub, List.cons_append, List.nil_append])
  repeat' (first | (apply AOps.nil; try simp only [List.nil_append, List.cons_append, List.set_cons_zero, List.set_cons_succ, List.length_cons, List.length_nil, Nat.reduceAdd, AV.sh, AV.sh1, AV.sh0, AO.sh, List.map_cons, List.map_nil, Nat.zero_add, Nat.add_zero, setAll]) | (apply w_move; exact rfl; exact rfl) | (apply w_assign; exact rfl; exact rfl) | apply AWp.seq | apply AWp.region | apply AWp.block | ((first | apply w_lenps | apply w_alst); iterate 2 exact rfl) | ((apply w_echmake); iterate 1 exact rfl) | (apply w_build1; exact rfl; exact rfl; (exact one_own rfl True.intro)) | (apply w_stst; iterate 5 exact rfl))
  refine AWp.loop (ι := Nat) (fun n => ⟨137, [(1, .i M), (5, .optr 1 0), (22, .ro (polsRo fs)), (23, .i fs.length), (24, .i n)]⟩) (fun n => [.ob (echOb none 2 (cnF fs M (rcI M) n)), .bx 63 [.own 0]]) (fun n => n ≤ fs.length) (fun n => fs.length - n) 0 (by omega) ⟨lee rfl (by (repeat (first | exact le_nil | refine le_eq rfl rfl ?_))), by (repeat (first | exact lo_nil | refine lo_eq rfl ?_)), rfl, rfl⟩ ?_
  rintro n hn0
  by_cases hn1 : n < fs.length
  · have hm : fs.getD n [] ∈ fs := getD_mem hn1
    have hcn : cnF fs M (rcI M) (n + 1) = cnA (fs.getD n []) M (rcI M (fs.getD n [])) (cnF fs M (rcI M) n) (rcI M (fs.getD n [])) := rfl
    have hLn := cnF_ok (fun n hn => (hf _ (getD_mem hn)).1.r) M (rcI M) n (by omega)
    obtain ⟨hp, hpl⟩ := hf _ hm
    obtain ⟨f, hfe⟩ : ∃ f, f = fs.getD n [] := ⟨_, rfl⟩
    have hfe2 : fs.getD ((n : Nat) : Int).toNat [] = f := hfe.symm
    rw [← hfe] at hm hcn hp hpl
    generalize hL0 : cnF fs M (rcI M) n = L0 at hcn hLn
    repeat' (first | (apply AOps.nil; try simp only [List.nil_append, List.cons_append, List.set_cons_zero, List.set_cons_succ, List.length_cons, List.length_nil, Nat.reduceAdd, AV.sh, AV.sh1, AV.sh0, AO.sh, List.map_cons, List.map_nil, Nat.zero_add, Nat.add_zero, setAll]) | (apply w_move; exact rfl; exact rfl) | apply AWp.seq | apply AWp.region | ((apply AWp.condP; exact rfl) <;> intro h) | apply AWp.block | apply AWp.exit | apply AWp.skip | (apply w_len; exact rfl; exact rfl; first | exact .ints _ | exact .intss _ | exact .sli rfl | exact .sls rfl | exact .slr rfl | exact .orow rfl | exact .nil) | ((first | apply w_faps | apply w_alst); iterate 2 exact rfl) | (apply w_idxps; iterate 3 exact rfl) | (apply w_ldps; iterate 3 exact rfl) | (rw [hfe2]) | omega | ((first | apply w_lss | apply w_eql | apply w_add | apply w_ld | apply w_fa); iterate 3 exact rfl) | (apply w_ldb; iterate 5 exact rfl) | (apply w_stst; iterate 5 exact rfl) | (apply inI_of <;> omega))
    · have h0 : f.length = 0 := by omega
      have e0 : cnF fs M (rcI M) (n + 1) = L0 := by
        rw [hcn, show rcI M f = 0 by unfold rcI; rw [if_pos h0]]; rfl
      exact ⟨n + 1, hn1, by omega, by rw [e0]; exact ⟨lee rfl (by (repeat (first | exact le_nil | refine le_eq rfl rfl ?_))), by (repeat (first | exact lo_nil | refine lo_eq rfl ?_)), rfl, rfl⟩⟩
    · have h0 : ¬ f.length = 0 := by omega
      obtain ⟨r0, r1, r2, _⟩ := hp.r 0 (by omega)
      simp only [show ((0 : Nat) : Int) = 0 from rfl] at r0 r1 r2
      have hC : rcI M f = ((M : Int) - geti (gets f 0) 0 - geti (gets f 0) 1 + 1).toNat := by unfold rcI; rw [if_neg h0]
      repeat' (first | (apply AOps.nil; try simp only [List.nil_append, List.cons_append, List.set_cons_zero, List.set_cons_succ, List.length_cons, List.length_nil, Nat.reduceAdd, AV.sh, AV.sh1, AV.sh0, AO.sh, List.map_cons, List.map_nil, Nat.zero_add, Nat.add_zero, setAll]) | (apply w_move; exact rfl; exact rfl) | (apply w_assign; exact rfl; exact rfl) | apply AWp.seq | apply AWp.region | apply AWp.block | (apply AWp.regionQ; kernel_rfl; kernel_rfl) | omega | ((first | apply w_sub | apply w_idx | apply w_ld | apply w_fa); iterate 3 exact rfl) | ((first | apply w_idxs | apply w_lds); iterate 3 exact rfl) | (apply w_ldb; iterate 5 exact rfl) | (apply inI_of <;> omega))
      generalize hR : (M : Int) - geti (gets f 0) 0 - geti (gets f 0) 1 = R at hC
      generalize rcI M f = C at hC hcn
      refine AWp.loop (ι := Nat) (fun a => ⟨137, [(1, .i M), (5, .optr 1 0), (7, .optr 2 0), (8, .i R), (9, .i a), (22, .ro (polsRo fs)), (23, .i fs.length), (24, .i n)]⟩) (fun a => [.ob (echOb none 2 (cnA f M C L0 a)), .bx 63 [.own 0], .bx 50 [.intss f]]) (fun a => a ≤ C) (fun a => C - a) 0 (Nat.zero_le _) ⟨lee rfl (by (repeat (first | exact le_nil | refine le_eq rfl rfl ?_))), by (repeat (first | exact lo_nil | refine lo_eq rfl ?_)), rfl, rfl⟩ ?_
      rintro a ha0
      by_cases ha1 : a < C
      · have hLa := cnA_ok hp.r M C hLn a
        have hca : cnA f M C L0 (a + 1) = cnB f M a (cnA f M C L0 a) (C - a) := rfl
        generalize cnA f M C L0 a = La at hLa hca
        repeat' (first | (apply AOps.nil; try simp only [List.nil_append, List.cons_append, List.set_cons_zero, List.set_cons_succ, List.length_cons, List.length_nil, Nat.reduceAdd, AV.sh, AV.sh1, AV.sh0, AO.sh, List.map_cons, List.map_nil, Nat.zero_add, Nat.add_zero, setAll]) | (apply w_move; exact rfl; exact rfl) | (apply w_assign; exact rfl; exact rfl) | apply AWp.seq | apply AWp.region | ((apply AWp.condP; exact rfl) <;> intro h) | apply AWp.block | apply AWp.exit | apply AWp.skip | omega | ((apply w_leq); iterate 3 exact rfl))
        refine AWp.loop (ι := Nat) (fun b => ⟨137, [(1, .i M), (5, .optr 1 0), (7, .optr 2 0), (8, .i R), (9, .i a), (10, .i b), (22, .ro (polsRo fs)), (23, .i fs.length), (24, .i n)]⟩) (fun b => [.ob (echOb none 2 (cnB f M a La b)), .bx 63 [.own 0], .bx 50 [.intss f]]) (fun b => b ≤ C - a) (fun b => C - a - b) 0 (Nat.zero_le _) ⟨lee rfl (by (repeat (first | exact le_nil | refine le_eq rfl rfl ?_))), by (repeat (first | exact lo_nil | refine lo_eq rfl ?_)), rfl, rfl⟩ ?_
        rintro b hb0
        by_cases hb1 : b < C - a
        · have hLb := cnB_ok hp.r M a hLa b
          have hLbl := hLb.len
          have hcb : cnB f M a La (b + 1) = addR (cnB f M a La b) (prR f a b M f.length) := rfl
          have hadd := add_c (triN (M + 1)) (cnB f M a La b) hLb.ok (prR f a b M f.length) (prR_len _ _ _ _ _) (by omega) (prR_in hp.r _ _ _ _ (Nat.le_refl _))
          rw [← hcb] at hadd
          have hab : a + b ≤ 17 := by omega
          have e0 : List.replicate (plI (M : Int) 0 + 1).toNat (0 : Int) = prR f a b M 0 := by rw [htop, Int.toNat_natCast]; rfl
          repeat' (first | (apply AOps.nil; try simp only [List.nil_append, List.cons_append, List.set_cons_zero, List.set_cons_succ, List.length_cons, List.length_nil, Nat.reduceAdd, AV.sh, AV.sh1, AV.sh0, AO.sh, List.map_cons, List.map_nil, Nat.zero_add, Nat.add_zero, setAll]) | (apply w_move; exact rfl; exact rfl) | (apply w_assign; exact rfl; exact rfl) | apply AWp.seq | apply AWp.region | ((apply AWp.condP; exact rfl) <;> intro h) | apply AWp.block | apply AWp.exit | apply AWp.skip | (apply w_len; exact rfl; exact rfl; first | exact .ints _ | exact .intss _ | exact .sli rfl | exact .sls rfl | exact .slr rfl | exact .orow rfl | exact .nil) | (apply w_call (hcol0); exact rfl; exact rfl; focus ((repeat (first | exact im_nil | refine im_cons rfl (.val _) ?_)); done)) | omega | ((first | apply w_leq | apply w_add | apply w_ld | apply w_fa); iterate 3 exact rfl) | (apply w_ldb; iterate 5 exact rfl) | (apply w_mki; exact rfl; exact rfl; rotate_left 3; exact rfl; rotate_left 1) | (apply inI_of <;> omega))
          refine AWp.loop (ι := Nat) (fun k => ⟨137, [(1, .i M), (5, .optr 1 0), (7, .optr 2 0), (8, .i R), (9, .i a), (10, .i b), (11, .own 3), (22, .ro (polsRo fs)), (23, .i fs.length), (24, .i n), (64, .intss f), (65, .i f.length), (66, .i k)]⟩) (fun k => [.ob (echOb none 2 (cnB f M a La b)), .bx 63 [.own 0], .bx 50 [.intss f], .sli 2 (prR f a b M k)]) (fun k => k ≤ f.length) (fun k => f.length - k) 0 (Nat.zero_le _) ⟨lee rfl (by (repeat (first | exact le_nil | refine le_eq rfl rfl ?_))), by (repeat (first | exact lo_nil | refine lo_eq rfl ?_)), rfl, rfl⟩ ?_
          rintro k hk0
          have hpl2 := prR_len f a b M k
          by_cases hk1 : k < f.length
          · obtain ⟨t0, t1, t2, t3⟩ := hp.r k hk1
            by_cases hle : geti (gets f (k : Nat)) 0 + geti (gets f (k : Nat)) 1 + a + b ≤ M
            · have hpr : prR f a b M (k + 1) = (prR f a b M k).set (plN (geti (gets f (k : Nat)) 0 + a).toNat (geti (gets f (k : Nat)) 1 + b).toNat) (geti (gets f (k : Nat)) 2) := by rw [prR, if_pos hle]
              have hcol := column_c (geti (gets f (k : Nat)) 0 + a) (geti (gets f (k : Nat)) 1 + b) (by omega) (by omega)
              have hlt := plN_lt (i := (geti (gets f (k : Nat)) 0 + a).toNat) (j := (geti (gets f (k : Nat)) 1 + b).toNat) (M := M) (by omega)
              unfold plI at hcol
              repeat' (first | (apply AOps.nil; try simp only [List.nil_append, List.cons_append, List.set_cons_zero, List.set_cons_succ, List.length_cons, List.length_nil, Nat.reduceAdd, AV.sh, AV.sh1, AV.sh0, AO.sh, List.map_cons, List.map_nil, Nat.zero_add, Nat.add_zero, setAll]) | (apply w_assign; exact rfl; exact rfl) | apply AWp.seq | apply AWp.region | ((apply AWp.condP; exact rfl) <;> intro h) | apply AWp.block | apply AWp.exit | apply AWp.skip | omega | ((first | apply w_lss | apply w_idx | apply w_ld); iterate 3 exact rfl) | ((first | apply w_idxs | apply w_lds); iterate 3 exact rfl))
              (apply AWp.regionQ; kernel_rfl; kernel_rfl)
              repeat' (first | (apply AOps.nil; try simp only [List.nil_append, List.cons_append, List.set_cons_zero, List.set_cons_succ, List.length_cons, List.length_nil, Nat.reduceAdd, AV.sh, AV.sh1, AV.sh0, AO.sh, List.map_cons, List.map_nil, Nat.zero_add, Nat.add_zero, setAll]) | (apply w_move; exact rfl; exact rfl) | apply AWp.region | ((apply AWp.condP; exact rfl) <;> intro h) | apply AWp.skip | omega | ((first | apply w_leq | apply w_add | apply w_idx | apply w_ld); iterate 3 exact rfl) | (apply inI_of <;> omega))
              refine AWp.regionA (by kernel_rfl) (envC := ⟨137, [(1, .i M), (5, .optr 1 0), (7, .optr 2 0), (8, .i R), (9, .i a), (10, .i b), (11, .own 3), (22, .ro (polsRo fs)), (23, .i fs.length), (24, .i n), (64, .intss f), (65, .i f.length), (66, .i k)]⟩) (osC := [.ob (echOb none 2 (cnB f M a La b)), .bx 63 [.own 0], .bx 50 [.intss f], .sli 2 ((prR f a b M k).set (((plN (geti (gets f (k : Nat)) 0 + a).toNat (geti (gets f (k : Nat)) 1 + b).toNat : Nat) : Int)).toNat (geti (gets f (k : Nat)) 2))]) rfl rfl ?_ ?_
              · repeat' (first | (apply AOps.nil; try simp only [List.nil_append, List.cons_append, List.set_cons_zero, List.set_cons_succ, List.length_cons, List.length_nil, Nat.reduceAdd, AV.sh, AV.sh1, AV.sh0, AO.sh, List.map_cons, List.map_nil, Nat.zero_add, Nat.add_zero, setAll]) | (apply w_move; exact rfl; exact rfl) | (apply w_call (hcol); exact rfl; exact rfl; focus ((repeat (first | exact im_nil | refine im_cons rfl (.val _) ?_)); done)) | omega | ((first | apply w_add | apply w_idx | apply w_ld); iterate 3 exact rfl) | (apply w_idxo; exact rfl; exact rfl; (exact .sli rfl); exact rfl) | (apply w_sti; exact rfl; exact rfl; rotate_left 1; exact rfl; rotate_left 2) | apply AllOf.nil | (apply AllOf.cons; exact rfl) | (apply AAny.take; exact rfl; exact rfl; kernel_rfl; kernel_rfl) | (apply AAny.all; exact rfl) | (apply AAny.done; exact rfl) | (apply inI_of <;> omega))
                all_goals (apply Or.inl; refine ⟨lee rfl ?_, ?_, rfl, rfl⟩; (focus ((repeat (first | exact le_nil | refine le_eq rfl rfl ?_)); done)); (focus ((repeat (first | exact lo_nil | refine lo_eq rfl ?_)); done)))
              repeat' (first | (apply AOps.nil; try simp only [List.nil_append, List.cons_append, List.set_cons_zero, List.set_cons_succ, List.length_cons, List.length_nil, Nat.reduceAdd, AV.sh, AV.sh1, AV.sh0, AO.sh, List.map_cons, List.map_nil, Nat.zero_add, Nat.add_zero, setAll]) | (apply w_move; exact rfl; exact rfl) | apply AWp.region | ((apply w_add); iterate 3 exact rfl) | (apply inI_of <;> omega))
              exact ⟨k + 1, hk1, by omega, ⟨lee rfl (by (repeat (first | exact le_nil | refine le_eq rfl rfl ?_))), by (repeat (first | exact lo_nil | refine lo_eq rfl ?_ | refine lo_eq (congrArg (AO.sli _) (hpr.symm)) ?_)), rfl, rfl⟩⟩
            · have hpr : prR f a b M (k + 1) = prR f a b M k := by rw [prR, if_neg hle]
              repeat' (first | (apply AOps.nil; try simp only [List.nil_append, List.cons_append, List.set_cons_zero, List.set_cons_succ, List.length_cons, List.length_nil, Nat.reduceAdd, AV.sh, AV.sh1, AV.sh0, AO.sh, List.map_cons, List.map_nil, Nat.zero_add, Nat.add_zero, setAll]) | (apply w_move; exact rfl; exact rfl) | (apply w_assign; exact rfl; exact rfl) | apply AWp.seq | apply AWp.region | ((apply AWp.condP; exact rfl) <;> intro h) | apply AWp.block | apply AWp.exit | apply AWp.skip | (apply AWp.regionQ; kernel_rfl; kernel_rfl) | omega | ((first | apply w_lss | apply w_leq | apply w_add | apply w_idx | apply w_ld); iterate 3 exact rfl) | ((first | apply w_idxs | apply w_lds); iterate 3 exact rfl) | (apply inI_of <;> omega))
              exact ⟨k + 1, hk1, by omega, ⟨lee rfl (by (repeat (first | exact le_nil | refine le_eq rfl rfl ?_))), by (repeat (first | exact lo_nil | refine lo_eq rfl ?_ | refine lo_eq (congrArg (AO.sli _) (hpr.symm)) ?_)), rfl, rfl⟩⟩
          · have ek : k = f.length := by omega
            subst ek
            repeat' (first | (apply AOps.nil; try simp only [List.nil_append, List.cons_append, List.set_cons_zero, List.set_cons_succ, List.length_cons, List.length_nil, Nat.reduceAdd, AV.sh, AV.sh1, AV.sh0, AO.sh, List.map_cons, List.map_nil, Nat.zero_add, Nat.add_zero, setAll]) | (apply w_move; exact rfl; exact rfl) | (apply w_assign; exact rfl; exact rfl) | apply AWp.seq | apply AWp.region | ((apply AWp.condP; exact rfl) <;> intro h) | apply AWp.block | apply AWp.exit | apply AWp.skip | ((apply w_calle 0 (hadd)); exact rfl; exact rfl; (focus ((repeat (first | exact imu_nil | refine imu_cons rfl (.sli rfl (by decide)) ?_ | refine imu_cons rfl (imu_agg1 (.own rfl)) ?_)); done)); simp only [Env.mp, List.map_cons, List.map_nil, List.set_cons_zero, List.set_cons_succ, AV.kill, AV.kill1, AO.kill, AV.noRow, AV.noRow1, AO.via, reduceIte, Nat.reduceEqDiff, Nat.reduceLT, Env.up, Nat.zero_ne_one, Nat.one_ne_zero, Nat.reduceAdd, List.cons_append, List.nil_append]) | omega | ((first | apply w_lss | apply w_add); iterate 3 exact rfl) | (apply w_ldst; iterate 5 exact rfl) | (apply inI_of <;> omega))
            exact ⟨b + 1, by omega, by omega, ⟨lee rfl (by (repeat (first | exact le_nil | refine le_eq rfl rfl ?_))), by (repeat (first | exact lo_nil | refine lo_eq rfl ?_)), rfl, rfl⟩⟩
        · have eb : b = C - a := by omega
          subst eb
          repeat' (first | (apply AOps.nil; try simp only [List.nil_append, List.cons_append, List.set_cons_zero, List.set_cons_succ, List.length_cons, List.length_nil, Nat.reduceAdd, AV.sh, AV.sh1, AV.sh0, AO.sh, List.map_cons, List.map_nil, Nat.zero_add, Nat.add_zero, setAll]) | (apply w_move; exact rfl; exact rfl) | (apply w_assign; exact rfl; exact rfl) | apply AWp.seq | apply AWp.region | ((apply AWp.condP; exact rfl) <;> intro h) | apply AWp.block | apply AWp.exit | apply AWp.skip | omega | ((first | apply w_leq | apply w_add); iterate 3 exact rfl) | (apply inI_of <;> omega))
          exact ⟨a + 1, by omega, by omega, by rw [hca]; exact ⟨lee rfl (by (repeat (first | exact le_nil | refine le_eq rfl rfl ?_))), by (repeat (first | exact lo_nil | refine lo_eq rfl ?_)), rfl, rfl⟩⟩
      · have ea : a = C := by omega
        subst ea
        repeat' (first | (apply AOps.nil; try simp only [List.nil_append, List.cons_append, List.set_cons_zero, List.set_cons_succ, List.length_cons, List.length_nil, Nat.reduceAdd, AV.sh, AV.sh1, AV.sh0, AO.sh, List.map_cons, List.map_nil, Nat.zero_add, Nat.add_zero, setAll]) | (apply w_move; exact rfl; exact rfl) | (apply w_assign; exact rfl; exact rfl) | apply AWp.seq | apply AWp.region | ((apply AWp.condP; exact rfl) <;> intro h) | apply AWp.block | apply AWp.exit | apply AWp.skip | omega | ((first | apply w_leq | apply w_add); iterate 3 exact rfl) | (apply inI_of <;> omega))
        exact ⟨n + 1, hn1, by omega, by rw [hcn]; exact ⟨lee rfl (by (repeat (first | exact le_nil | refine le_eq rfl rfl ?_))), by (repeat (first | exact lo_nil | refine lo_eq rfl ?_)), rfl, rfl⟩⟩
  · have en : n = fs.length := by omega
    subst en
    have hL := cnF_ok (fun n hn => (hf _ (getD_mem hn)).1.r) M (rcI M) fs.length (Nat.le_refl _)
    have hld : ∀ p : Nat, p < triN (M + 1) → (fndR (cnF fs M (rcI M) fs.length) (p : Nat)).isSome = isLd fs p := fun p hp => ld_I (fun f hf2 => (hf f hf2).1) hM hp
    generalize cnF fs M (rcI M) fs.length = L at hL hld
    have hLl := hL.len
    repeat' (first | (apply AOps.nil; try simp only [List.nil_append, List.cons_append, List.set_cons_zero, List.set_cons_succ, List.length_cons, List.length_nil, Nat.reduceAdd, AV.sh, AV.sh1, AV.sh0, AO.sh, List.map_cons, List.map_nil, Nat.zero_add, Nat.add_zero, setAll]) | (apply w_assign; exact rfl; exact rfl) | apply AWp.seq | apply AWp.region | ((apply AWp.condP; exact rfl) <;> intro h) | apply AWp.block | apply AWp.exit | apply AWp.skip | omega | ((apply w_lss); iterate 3 exact rfl) | (apply w_bs0; iterate 1 exact rfl))
    refine AWp.loop (ι := Nat) (fun d => ⟨137, [(1, .i M), (5, .optr 1 0), (14, .own 2), (15, .i d)]⟩) (fun d => [.ob (echOb none 2 L), .bx 63 [.own 0], .sli 2 (cntL (isLd fs) d)]) (fun d => d ≤ M + 1) (fun d => M + 1 - d) 0 (by omega) ⟨lee rfl (by (repeat (first | exact le_nil | refine le_eq rfl rfl ?_))), by (repeat (first | exact lo_nil | refine lo_eq rfl ?_)), rfl, rfl⟩ ?_
    rintro d hd0
    have hcl := cntL_len (isLd fs) d
    by_cases hd1 : d < M + 1
    · repeat' (first | (apply AOps.nil; try simp only [List.nil_append, List.cons_append, List.set_cons_zero, List.set_cons_succ, List.length_cons, List.length_nil, Nat.reduceAdd, AV.sh, AV.sh1, AV.sh0, AO.sh, List.map_cons, List.map_nil, Nat.zero_add, Nat.add_zero, setAll]) | (apply w_move; exact rfl; exact rfl) | (apply w_assign; exact rfl; exact rfl) | apply AWp.seq | apply AWp.region | ((apply AWp.condP; exact rfl) <;> intro h) | apply AWp.block | apply AWp.ret | apply AWp.exit | apply AWp.skip | omega | ((first | apply w_leq | apply w_add); iterate 3 exact rfl) | (apply inI_of <;> omega))
      refine AWp.loop (ι := Nat) (fun i => ⟨137, [(1, .i M), (5, .optr 1 0), (14, .own 2), (15, .i d), (16, .i ((d : Int) + 1 - (tkN (isLd fs) d i : Int))), (113, .i ((d : Int) + 1)), (114, .i i)]⟩) (fun i => [.ob (echOb none 2 L), .bx 63 [.own 0], .sli 2 (cntL (isLd fs) d)]) (fun i => i ≤ d + 1) (fun i => d + 1 - i) 0 (by omega) ?_ ?_
      · have e0 : (d : Int) + 1 - (tkN (isLd fs) d 0 : Int) = (d : Int) + 1 := by simp [tkN]
        exact ⟨lee rfl (by (repeat (first | exact le_nil | refine le_eq rfl rfl ?_))), by (repeat (first | exact lo_nil | refine lo_eq rfl ?_)), rfl, rfl⟩
      rintro i hi0
      have htl := tkN_le (isLd fs) d i
      by_cases hi1 : i < d + 1
      · have hcol := column_c (i : Int) ((d : Int) - (i : Int)) (by omega) (by omega)
        have hpd := pl_deg (d := d) (i := i) (by omega) (by omega)
        have hlt : triN d + i < triN (M + 1) := by
          have := triN_mono (show d + 1 ≤ M + 1 by omega)
          rw [triN] at this; omega
        have hP := hld (triN d + i) hlt
        rw [hpd] at hcol
        have htk : tkN (isLd fs) d (i + 1) = tkN (isLd fs) d i + (if isLd fs (triN d + i) then 1 else 0) := rfl
        cases hfn : fndR L ((triN d + i : Nat) : Int) with
        | some k0 =>
          rw [hfn] at hP
          have hP' : isLd fs (triN d + i) = true := hP.symm
          rw [hP', if_pos rfl] at htk
          repeat' (first | (apply AOps.nil; try simp only [List.nil_append, List.cons_append, List.set_cons_zero, List.set_cons_succ, List.length_cons, List.length_nil, Nat.reduceAdd, AV.sh, AV.sh1, AV.sh0, AO.sh, List.map_cons, List.map_nil, Nat.zero_add, Nat.add_zero, setAll]) | (apply w_move; exact rfl; exact rfl) | (apply w_assign; exact rfl; exact rfl) | apply AWp.seq | apply AWp.region | ((apply AWp.condP; exact rfl) <;> intro h) | (apply AWp.condT; exact rfl) | apply AWp.block | apply AWp.exit | apply AWp.skip | (apply AWp.regionQ; kernel_rfl; kernel_rfl) | (apply w_call (hcol); exact rfl; exact rfl; focus ((repeat (first | exact im_nil | refine im_cons rfl (.val _) ?_)); done)) | (apply w_echhit (hfn); exact rfl; exact rfl; exact rfl; exact rfl; exact rfl) | omega | ((first | apply w_lss | apply w_add | apply w_sub | apply w_ld | apply w_fa | apply w_extv); iterate 3 exact rfl) | ((first | apply w_lds | apply w_ext); iterate 3 exact rfl) | (apply w_ldb; iterate 5 exact rfl) | (apply inI_of <;> omega))
          exact ⟨i + 1, by omega, by omega, ⟨lee rfl (by (repeat (first | exact le_nil | refine le_eq rfl rfl ?_ | refine le_eq rfl (congrArg AV.i (by omega)) ?_))), by (repeat (first | exact lo_nil | refine lo_eq rfl ?_)), rfl, rfl⟩⟩
        | none =>
          rw [hfn] at hP
          have hP' : isLd fs (triN d + i) = false := hP.symm
          rw [hP', if_neg (by simp)] at htk
          repeat' (first | (apply AOps.nil; try simp only [List.nil_append, List.cons_append, List.set_cons_zero, List.set_cons_succ, List.length_cons, List.length_nil, Nat.reduceAdd, AV.sh, AV.sh1, AV.sh0, AO.sh, List.map_cons, List.map_nil, Nat.zero_add, Nat.add_zero, setAll]) | (apply w_move; exact rfl; exact rfl) | (apply w_assign; exact rfl; exact rfl) | apply AWp.seq | apply AWp.region | ((apply AWp.condP; exact rfl) <;> intro h) | (apply AWp.condF; exact rfl) | apply AWp.block | apply AWp.exit | apply AWp.skip | (apply AWp.regionQ; kernel_rfl; kernel_rfl) | (apply w_call (hcol); exact rfl; exact rfl; focus ((repeat (first | exact im_nil | refine im_cons rfl (.val _) ?_)); done)) | (apply w_echmiss (hfn); exact rfl; exact rfl; exact rfl; exact rfl; exact rfl) | omega | ((first | apply w_lss | apply w_add | apply w_sub | apply w_ld | apply w_fa | apply w_extv); iterate 3 exact rfl) | ((first | apply w_lds | apply w_ext); iterate 3 exact rfl) | (apply w_ldb; iterate 5 exact rfl) | (apply inI_of <;> omega))
          exact ⟨i + 1, by omega, by omega, ⟨lee rfl (by (repeat (first | exact le_nil | refine le_eq rfl rfl ?_ | refine le_eq rfl (congrArg AV.i (by omega)) ?_))), by (repeat (first | exact lo_nil | refine lo_eq rfl ?_)), rfl, rfl⟩⟩
      · have ei : i = d + 1 := by omega
        subst ei
        have hh := hcN_int (isLd fs) d
        have e9 : cntL (isLd fs) d ++ [(d : Int) + 1 - (tkN (isLd fs) d (d + 1) : Int)] = cntL (isLd fs) (d + 1) := by rw [← hh]; rfl
        repeat' (first | (apply AOps.nil; try simp only [List.nil_append, List.cons_append, List.set_cons_zero, List.set_cons_succ, List.length_cons, List.length_nil, Nat.reduceAdd, AV.sh, AV.sh1, AV.sh0, AO.sh, List.map_cons, List.map_nil, Nat.zero_add, Nat.add_zero, setAll]) | (apply w_move; exact rfl; exact rfl) | (apply w_assign; exact rfl; exact rfl) | apply AWp.seq | apply AWp.region | ((apply AWp.condP; exact rfl) <;> intro h) | apply AWp.block | apply AWp.exit | apply AWp.skip | omega | ((first | apply w_lss | apply w_add); iterate 3 exact rfl) | ((apply w_bs1); iterate 2 exact rfl) | (apply w_app; exact rfl; exact rfl; exact rfl; exact rfl; (exact .sli rfl); rotate_left 1; simp only [Env.mp, List.map_cons, List.map_nil, List.set_cons_zero, List.set_cons_succ, AV.kill, AV.kill1, AO.kill, AV.noRow, AV.noRow1, AO.via, reduceIte, Nat.reduceEqDiff, Nat.reduceLT, Env.up, Nat.zero_ne_one, Nat.one_ne_zero, Nat.reduceAdd, List.cons_append, List.nil_append]; rotate_left 1) | (apply inI_of <;> omega) | (simp <;> omega))
        exact ⟨d + 1, by omega, by omega, ⟨lee rfl (by (repeat (first | exact le_nil | refine le_eq rfl rfl ?_))), by (repeat (first | exact lo_nil | refine lo_eq rfl ?_ | refine lo_eq (congrArg (AO.sli _) (e9)) ?_)), rfl, rfl⟩⟩
    · have ed : d = M + 1 := by omega
      subst ed
      repeat' (first | (apply AOps.nil; try simp only [List.nil_append, List.cons_append, List.set_cons_zero, List.set_cons_succ, List.length_cons, List.length_nil, Nat.reduceAdd, AV.sh, AV.sh1, AV.sh0, AO.sh, List.map_cons, List.map_nil, Nat.zero_add, Nat.add_zero, setAll]) | (apply w_move; exact rfl; exact rfl) | (apply w_assign; exact rfl; exact rfl) | apply AWp.seq | apply AWp.region | ((apply AWp.condP; exact rfl) <;> intro h) | apply AWp.block | apply AWp.ret | apply AWp.exit | apply AWp.skip | omega | ((apply w_leq); iterate 3 exact rfl))
      exact ⟨_, _, _, .v1 Try.results87 rfl, .sli rfl, rfl, rfl⟩
end Go.Proofs.Ytifkgmbghcmdeaa
/-
  Local algebras: the reference's counts. No condition but bounds.
-/
namespace Go.Proofs.Ytifkgmbghcmdeaa
open Go Go.RowKit
attribute [local irreducible] AWp AOps ResIs Ret1 QOp LOp COp AFnV AFn Imms LeE LeO
set_option maxHeartbeats 1000000
set_option linter.unusedSimpArgs false
set_option linter.unusedVariables false

/-- Is one of the first k terms in range? -/
def smB (f : List (List Int)) (a b : Nat) : Nat → Bool
  | 0 => false
  | k + 1 => if geti (gets f (k : Nat)) 0 + geti (gets f (k : Nat)) 1 + a + b ≤ (17 : Nat) then true else smB f a b k
theorem smB_no {f : List (List Int)} {a b : Nat} : ∀ k, smB f a b k = false → prR f a b 17 k = List.replicate (triN 18) 0
  | 0, _ => rfl
  | k + 1, h => by
    unfold smB at h
    split at h
    · cases h
    · rename_i hn
      rw [prR, if_neg hn]
      exact smB_no k h
theorem redR_zero {L : Rws} {m : Nat} : ∀ n p, redR L n (List.replicate m 0) p = none
  | 0, _ => rfl
  | n + 1, p => by
    rw [redR, if_pos]
    · exact redR_zero n (p + 1)
    · unfold geti
      rw [List.getD_eq_getElem?_getD, List.getElem?_replicate]; split <;> rfl
theorem addR_zero {L : Rws} {m : Nat} : addR L (List.replicate m 0) = L := by unfold addR; rw [redR_zero]

set_option maxHeartbeats 16000000 in
theorem l17Counts_c (fs : List (List (List Int))) (hf : ∀ f ∈ fs, PoO f ∧ f.length ≤ 200) (hn : fs.length ≤ 1000) : AFn Try.prog 86 [.ro (polsRo fs)] (IsInts 2 (cntL (isLd fs) 18)) := by
  have h171 : triN 18 = 171 := rfl
  have h171' : triN (17 + 1) = 171 := rfl
  (refine AFn.start Try.func86 Try.ntmps86 rfl (by kernel_rfl) fun hk => ?_; simp only [Env.start, enumF, List.length_cons, List.length_nil, Nat.reduceAdd, Nat.reduceSub, List.cons_append, List.nil_append])
  repeat' (first | (apply AOps.nil; try simp only [List.nil_append, List.cons_append, List.set_cons_zero, List.set_cons_succ, List.length_cons, List.length_nil, Nat.reduceAdd, AV.sh, AV.sh1, AV.sh0, AO.sh, List.map_cons, List.map_nil, Nat.zero_add, Nat.add_zero, setAll]) | (apply w_move; exact rfl; exact rfl) | (apply w_assign; exact rfl; exact rfl) | apply AWp.seq | apply AWp.region | apply AWp.block | ((first | apply w_bsr0 | apply w_bs0); iterate 1 exact rfl) | ((first | apply w_add | apply w_mul); iterate 3 exact rfl) | (apply w_quo; exact rfl; exact rfl; exact rfl; (focus (omega; done)); (focus (omega; done))) | (apply inI_of <;> omega))
  refine AWp.loop (ι := Nat) (fun n => ⟨139, [(0, .ro (polsRo fs)), (3, .i 17), (4, .i 171), (5, .own 0), (6, .own 1), (7, .i n)]⟩) (fun n => [.sls 22 2 (rowsOf (cnF fs 17 (fun _ => 18) n)), .sli 2 (valsOf (cnF fs 17 (fun _ => 18) n))]) (fun n => n ≤ fs.length) (fun n => fs.length - n) 0 (by omega) ⟨lee rfl (by (repeat (first | exact le_nil | refine le_eq rfl rfl ?_))), by (repeat (first | exact lo_nil | refine lo_eq rfl ?_)), rfl, rfl⟩ ?_
  rintro n hn0
  by_cases hn1 : n < fs.length
  · have hm : fs.getD n [] ∈ fs := getD_mem hn1
    have hcn : cnF fs 17 (fun _ => 18) (n + 1) = cnA (fs.getD n []) 17 18 (cnF fs 17 (fun _ => 18) n) 18 := rfl
    have hLn := cnF_ok (fun n hn => (hf _ (getD_mem hn)).1.r) 17 (fun _ => 18) n (by omega)
    obtain ⟨hp, hpl⟩ := hf _ hm
    obtain ⟨f, hfe⟩ : ∃ f, f = fs.getD n [] := ⟨_, rfl⟩
    have hfe2 : fs.getD ((n : Nat) : Int).toNat [] = f := hfe.symm
    rw [← hfe] at hm hcn hp hpl
    generalize hL0 : cnF fs 17 (fun _ => 18) n = L0 at hcn hLn
    repeat' (first | (apply AOps.nil; try simp only [List.nil_append, List.cons_append, List.set_cons_zero, List.set_cons_succ, List.length_cons, List.length_nil, Nat.reduceAdd, AV.sh, AV.sh1, AV.sh0, AO.sh, List.map_cons, List.map_nil, Nat.zero_add, Nat.add_zero, setAll]) | (apply w_move; exact rfl; exact rfl) | (apply w_assign; exact rfl; exact rfl) | apply AWp.seq | apply AWp.region | ((apply AWp.condP; exact rfl) <;> intro h) | apply AWp.block | apply AWp.exit | apply AWp.skip | ((apply w_lenps); iterate 2 exact rfl) | omega | ((apply w_lss); iterate 3 exact rfl))
    refine AWp.loop (ι := Nat) (fun a => ⟨139, [(0, .ro (polsRo fs)), (3, .i 17), (4, .i 171), (5, .own 0), (6, .own 1), (7, .i n), (8, .i a)]⟩) (fun a => [.sls 22 2 (rowsOf (cnA f 17 18 L0 a)), .sli 2 (valsOf (cnA f 17 18 L0 a))]) (fun a => a ≤ 18) (fun a => 18 - a) 0 (by omega) ⟨lee rfl (by (repeat (first | exact le_nil | refine le_eq rfl rfl ?_))), by (repeat (first | exact lo_nil | refine lo_eq rfl ?_)), rfl, rfl⟩ ?_
    rintro a ha0
    by_cases ha1 : a < 18
    · have hLa := cnA_ok hp.r 17 18 hLn a
      have hca : cnA f 17 18 L0 (a + 1) = cnB f 17 a (cnA f 17 18 L0 a) (18 - a) := rfl
      generalize cnA f 17 18 L0 a = La at hLa hca
      repeat' (first | (apply AOps.nil; try simp only [List.nil_append, List.cons_append, List.set_cons_zero, List.set_cons_succ, List.length_cons, List.length_nil, Nat.reduceAdd, AV.sh, AV.sh1, AV.sh0, AO.sh, List.map_cons, List.map_nil, Nat.zero_add, Nat.add_zero, setAll]) | (apply w_move; exact rfl; exact rfl) | (apply w_assign; exact rfl; exact rfl) | apply AWp.seq | apply AWp.region | ((apply AWp.condP; exact rfl) <;> intro h) | apply AWp.block | apply AWp.exit | apply AWp.skip | omega | ((apply w_leq); iterate 3 exact rfl))
      refine AWp.loopS (ι := Nat) (fun b => ⟨139, [(0, .ro (polsRo fs)), (3, .i 17), (4, .i 171), (5, .own 0), (6, .own 1), (7, .i n), (8, .i a), (9, .i b)]⟩) (fun b => [.sls 22 2 (rowsOf (cnB f 17 a La b)), .sli 2 (valsOf (cnB f 17 a La b))]) (fun b => b ≤ 18 - a) (fun b => 18 - a - b) 0 (Nat.zero_le _) ⟨lee rfl (by (repeat (first | exact le_nil | refine le_eq rfl rfl ?_))), by (repeat (first | exact lo_nil | refine lo_eq rfl ?_)), rfl, rfl⟩ ?_
      rintro b hb0
      by_cases hb1 : b < 18 - a
      · have hLb := cnB_ok hp.r 17 a hLa b
        have hLbl := hLb.len
        have hcb : cnB f 17 a La (b + 1) = addR (cnB f 17 a La b) (prR f a b 17 f.length) := rfl
        have hred := l17Reduce_c (triN 18) (cnB f 17 a La b) hLb.ok (by omega) (prR f a b 17 f.length) (prR_len _ _ _ _ _) (by omega) (prR_in hp.r _ _ _ _ (Nat.le_refl _))
        rw [← hcb] at hred
        have e0 : List.replicate (171 : Int).toNat (0 : Int) = prR f a b 17 0 := rfl
        generalize hLB : cnB f 17 a La b = LB at hred hLb hLbl hcb
        repeat' (first | (apply AOps.nil; try simp only [List.nil_append, List.cons_append, List.set_cons_zero, List.set_cons_succ, List.length_cons, List.length_nil, Nat.reduceAdd, AV.sh, AV.sh1, AV.sh0, AO.sh, List.map_cons, List.map_nil, Nat.zero_add, Nat.add_zero, setAll]) | (apply w_move; exact rfl; exact rfl) | (apply w_assign; exact rfl; exact rfl) | apply AWp.seq | apply AWp.region | ((apply AWp.condP; exact rfl) <;> intro h) | apply AWp.block | apply AWp.exit | apply AWp.skip | omega | ((first | apply w_leq | apply w_add); iterate 3 exact rfl) | (apply w_mki; exact rfl; exact rfl; rotate_left 3; exact rfl; rotate_left 1) | (apply inI_of <;> omega))
        refine AWp.loop (ι := Nat) (fun k => ⟨139, [(0, .ro (polsRo fs)), (3, .i 17), (4, .i 171), (5, .own 0), (6, .own 1), (7, .i n), (8, .i a), (9, .i b), (10, .own 2), (11, .b (smB f a b k)), (12, .i k)]⟩) (fun k => [.sls 22 2 (rowsOf LB), .sli 2 (valsOf LB), .sli 2 (prR f a b 17 k)]) (fun k => k ≤ f.length) (fun k => f.length - k) 0 (Nat.zero_le _) ⟨lee rfl (by (repeat (first | exact le_nil | refine le_eq rfl rfl ?_))), by (repeat (first | exact lo_nil | refine lo_eq rfl ?_)), rfl, rfl⟩ ?_
        rintro k hk0
        have hpl2 := prR_len f a b 17 k
        by_cases hk1 : k < f.length
        · obtain ⟨t0, t1, t2, t3⟩ := hp.r k hk1
          by_cases hle : geti (gets f (k : Nat)) 0 + geti (gets f (k : Nat)) 1 + a + b ≤ (17 : Nat)
          · have hpr : prR f a b 17 (k + 1) = (prR f a b 17 k).set (plN (geti (gets f (k : Nat)) 0 + a).toNat (geti (gets f (k : Nat)) 1 + b).toNat) (geti (gets f (k : Nat)) 2) := by rw [prR, if_pos hle]
            have hsm : smB f a b (k + 1) = true := by rw [smB, if_pos hle]
            have hcol := l17Place_c (geti (gets f (k : Nat)) 0 + a) (geti (gets f (k : Nat)) 1 + b) (by omega) (by omega)
            have hlt := plN_lt (i := (geti (gets f (k : Nat)) 0 + a).toNat) (j := (geti (gets f (k : Nat)) 1 + b).toNat) (M := 17) (by omega)
            unfold plI at hcol
            repeat' (first | (apply AOps.nil; try simp only [List.nil_append, List.cons_append, List.set_cons_zero, List.set_cons_succ, List.length_cons, List.length_nil, Nat.reduceAdd, AV.sh, AV.sh1, AV.sh0, AO.sh, List.map_cons, List.map_nil, Nat.zero_add, Nat.add_zero, setAll]) | (apply w_move; exact rfl; exact rfl) | (apply w_assign; exact rfl; exact rfl) | apply AWp.seq | apply AWp.region | ((apply AWp.condP; exact rfl) <;> intro h) | ((apply AWp.condB; exact rfl) <;> intro h) | apply AWp.block | apply AWp.exit | apply AWp.skip | (apply w_len; exact rfl; exact rfl; first | exact .ints _ | exact .intss _ | exact .sli rfl | exact .sls rfl | exact .slr rfl | exact .orow rfl | exact .nil) | ((apply w_faps); iterate 2 exact rfl) | (apply w_ldpt; iterate 3 exact rfl) | (apply w_idxps; iterate 3 exact rfl) | (rw [hfe2]) | omega | ((first | apply w_lss | apply w_idx | apply w_ld); iterate 3 exact rfl) | ((first | apply w_idxs | apply w_lds); iterate 3 exact rfl))
            (apply AWp.regionQ; kernel_rfl; kernel_rfl)
            repeat' (first | (apply AOps.nil; try simp only [List.nil_append, List.cons_append, List.set_cons_zero, List.set_cons_succ, List.length_cons, List.length_nil, Nat.reduceAdd, AV.sh, AV.sh1, AV.sh0, AO.sh, List.map_cons, List.map_nil, Nat.zero_add, Nat.add_zero, setAll]) | (apply w_move; exact rfl; exact rfl) | apply AWp.seq | apply AWp.region | ((apply AWp.condP; exact rfl) <;> intro h) | apply AWp.skip | omega | ((first | apply w_leq | apply w_add | apply w_idx | apply w_ld); iterate 3 exact rfl) | (apply inI_of <;> omega))
            refine AWp.regionA (by kernel_rfl) (envC := ⟨139, [(0, .ro (polsRo fs)), (3, .i 17), (4, .i 171), (5, .own 0), (6, .own 1), (7, .i n), (8, .i a), (9, .i b), (10, .own 2), (12, .i k)]⟩) (osC := [.sls 22 2 (rowsOf LB), .sli 2 (valsOf LB), .sli 2 ((prR f a b 17 k).set (((plN (geti (gets f (k : Nat)) 0 + a).toNat (geti (gets f (k : Nat)) 1 + b).toNat : Nat) : Int)).toNat (geti (gets f (k : Nat)) 2))]) rfl rfl ?_ ?_
            · repeat' (first | (apply AOps.nil; try simp only [List.nil_append, List.cons_append, List.set_cons_zero, List.set_cons_succ, List.length_cons, List.length_nil, Nat.reduceAdd, AV.sh, AV.sh1, AV.sh0, AO.sh, List.map_cons, List.map_nil, Nat.zero_add, Nat.add_zero, setAll]) | (apply w_move; exact rfl; exact rfl) | (apply w_call (hcol); exact rfl; exact rfl; focus ((repeat (first | exact im_nil | refine im_cons rfl (.val _) ?_)); done)) | omega | ((first | apply w_add | apply w_idx | apply w_ld); iterate 3 exact rfl) | (apply w_idxo; exact rfl; exact rfl; (exact .sli rfl); exact rfl) | (apply w_sti; exact rfl; exact rfl; rotate_left 1; exact rfl; rotate_left 2) | apply AllOf.nil | (apply AllOf.cons; exact rfl) | (apply AAny.take; exact rfl; exact rfl; kernel_rfl; kernel_rfl) | (apply AAny.all; exact rfl) | (apply AAny.done; exact rfl) | (apply inI_of <;> omega))
              all_goals (apply Or.inl; refine ⟨lee rfl ?_, ?_, rfl, rfl⟩; (focus ((repeat (first | exact le_nil | refine le_eq rfl rfl ?_)); done)); (focus ((repeat (first | exact lo_nil | refine lo_eq rfl ?_)); done)))
            repeat' (first | (apply AOps.nil; try simp only [List.nil_append, List.cons_append, List.set_cons_zero, List.set_cons_succ, List.length_cons, List.length_nil, Nat.reduceAdd, AV.sh, AV.sh1, AV.sh0, AO.sh, List.map_cons, List.map_nil, Nat.zero_add, Nat.add_zero, setAll]) | (apply w_move; exact rfl; exact rfl) | (apply w_assign; exact rfl; exact rfl) | apply AWp.region | ((apply w_add); iterate 3 exact rfl) | (apply inI_of <;> omega))
            exact ⟨k + 1, hk1, by omega, by rw [hsm]; exact ⟨lee rfl (by (repeat (first | exact le_nil | refine le_eq rfl rfl ?_))), by (repeat (first | exact lo_nil | refine lo_eq rfl ?_ | refine lo_eq (congrArg (AO.sli _) (hpr.symm)) ?_)), rfl, rfl⟩⟩
          · have hpr : prR f a b 17 (k + 1) = prR f a b 17 k := by rw [prR, if_neg hle]
            have hsm : smB f a b (k + 1) = smB f a b k := by rw [smB, if_neg hle]
            repeat' (first | (apply AOps.nil; try simp only [List.nil_append, List.cons_append, List.set_cons_zero, List.set_cons_succ, List.length_cons, List.length_nil, Nat.reduceAdd, AV.sh, AV.sh1, AV.sh0, AO.sh, List.map_cons, List.map_nil, Nat.zero_add, Nat.add_zero, setAll]) | (apply w_move; exact rfl; exact rfl) | (apply w_assign; exact rfl; exact rfl) | apply AWp.seq | apply AWp.region | ((apply AWp.condP; exact rfl) <;> intro h) | ((apply AWp.condB; exact rfl) <;> intro h) | apply AWp.block | apply AWp.exit | apply AWp.skip | (apply w_len; exact rfl; exact rfl; first | exact .ints _ | exact .intss _ | exact .sli rfl | exact .sls rfl | exact .slr rfl | exact .orow rfl | exact .nil) | ((apply w_faps); iterate 2 exact rfl) | (apply w_ldpt; iterate 3 exact rfl) | (apply w_idxps; iterate 3 exact rfl) | (rw [hfe2]) | omega | ((first | apply w_lss | apply w_idx | apply w_ld); iterate 3 exact rfl) | ((first | apply w_idxs | apply w_lds); iterate 3 exact rfl))
            (apply AWp.regionQ; kernel_rfl; kernel_rfl)
            repeat' (first | (apply AOps.nil; try simp only [List.nil_append, List.cons_append, List.set_cons_zero, List.set_cons_succ, List.length_cons, List.length_nil, Nat.reduceAdd, AV.sh, AV.sh1, AV.sh0, AO.sh, List.map_cons, List.map_nil, Nat.zero_add, Nat.add_zero, setAll]) | (apply w_move; exact rfl; exact rfl) | (apply w_assign; exact rfl; exact rfl) | apply AWp.seq | apply AWp.region | ((apply AWp.condP; exact rfl) <;> intro h) | apply AWp.skip | omega | ((first | apply w_leq | apply w_add | apply w_idx | apply w_ld); iterate 3 exact rfl) | (apply inI_of <;> omega))
            exact ⟨k + 1, hk1, by omega, by rw [hsm]; exact ⟨lee rfl (by (repeat (first | exact le_nil | refine le_eq rfl rfl ?_))), by (repeat (first | exact lo_nil | refine lo_eq rfl ?_ | refine lo_eq (congrArg (AO.sli _) (hpr.symm)) ?_)), rfl, rfl⟩⟩
        · have ek : k = f.length := by omega
          subst ek
          cases hsm : smB f a b f.length with
          | true =>
            repeat' (first | (apply AOps.nil; try simp only [List.nil_append, List.cons_append, List.set_cons_zero, List.set_cons_succ, List.length_cons, List.length_nil, Nat.reduceAdd, AV.sh, AV.sh1, AV.sh0, AO.sh, List.map_cons, List.map_nil, Nat.zero_add, Nat.add_zero, setAll]) | (apply w_move; exact rfl; exact rfl) | (apply w_assign; exact rfl; exact rfl) | apply AWp.seq | apply AWp.region | ((apply AWp.condP; exact rfl) <;> intro h) | (apply AWp.condT; exact rfl) | apply AWp.block | apply AWp.exit | apply AWp.skip | (apply w_len; exact rfl; exact rfl; first | exact .ints _ | exact .intss _ | exact .sli rfl | exact .sls rfl | exact .slr rfl | exact .orow rfl | exact .nil) | ((apply w_faps); iterate 2 exact rfl) | (apply w_ldpt; iterate 3 exact rfl) | (apply w_idxps; iterate 3 exact rfl) | (apply w_callc [0, 1, 2] (hred); exact rfl; (exact handed3 rfl rfl rfl rfl True.intro True.intro True.intro); (focus ((repeat (first | exact imu_nil | refine imu_cons rfl (.own rfl) ?_)); done)); rintro r os0 ⟨rfl, rfl⟩; try simp only [List.nil_append, List.cons_append, List.set_cons_zero, List.set_cons_succ, List.length_cons, List.length_nil, Nat.reduceAdd, AV.sh, AV.sh1, AV.sh0, AO.sh, List.map_cons, List.map_nil, Nat.zero_add, Nat.add_zero, setAll]) | (rw [hfe2]) | omega | ((first | apply w_lss | apply w_add | apply w_extv); iterate 3 exact rfl) | ((apply w_ext); iterate 3 exact rfl) | (apply inI_of <;> omega))
            refine ⟨b + 1, by omega, by omega, ?_⟩
            (apply Or.inr; refine ⟨[3, 4], ⟨by decide, fun x hx => Nat.lt_of_lt_of_le ((by decide : ∀ x ∈ ([3, 4] : List Nat), x < 5) x hx) (Nat.le_of_ble_eq_true rfl)⟩, lee rfl ?_, ?_, rfl, rfl⟩; (focus ((repeat (first | exact le_nil | refine le_eq rfl rfl ?_)); done)); (focus ((repeat (first | exact lo_nil | refine lo_eq rfl ?_)); done)))
          | false =>
            have e1 : cnB f 17 a La (b + 1) = LB := by rw [hcb, smB_no _ hsm, addR_zero]
            repeat' (first | (apply AOps.nil; try simp only [List.nil_append, List.cons_append, List.set_cons_zero, List.set_cons_succ, List.length_cons, List.length_nil, Nat.reduceAdd, AV.sh, AV.sh1, AV.sh0, AO.sh, List.map_cons, List.map_nil, Nat.zero_add, Nat.add_zero, setAll]) | (apply w_move; exact rfl; exact rfl) | (apply w_assign; exact rfl; exact rfl) | apply AWp.seq | apply AWp.region | ((apply AWp.condP; exact rfl) <;> intro h) | (apply AWp.condF; exact rfl) | apply AWp.block | apply AWp.exit | apply AWp.skip | (apply w_len; exact rfl; exact rfl; first | exact .ints _ | exact .intss _ | exact .sli rfl | exact .sls rfl | exact .slr rfl | exact .orow rfl | exact .nil) | ((apply w_faps); iterate 2 exact rfl) | (apply w_ldpt; iterate 3 exact rfl) | (apply w_idxps; iterate 3 exact rfl) | (rw [hfe2]) | omega | ((first | apply w_lss | apply w_add); iterate 3 exact rfl) | (apply inI_of <;> omega))
            refine ⟨b + 1, by omega, by omega, .inl ?_⟩
            rw [e1]
            exact ⟨lee rfl (by (repeat (first | exact le_nil | refine le_eq rfl rfl ?_))), by (repeat (first | exact lo_nil | refine lo_eq rfl ?_)), rfl, rfl⟩
      · have eb : b = 18 - a := by omega
        subst eb
        repeat' (first | (apply AOps.nil; try simp only [List.nil_append, List.cons_append, List.set_cons_zero, List.set_cons_succ, List.length_cons, List.length_nil, Nat.reduceAdd, AV.sh, AV.sh1, AV.sh0, AO.sh, List.map_cons, List.map_nil, Nat.zero_add, Nat.add_zero, setAll]) | (apply w_move; exact rfl; exact rfl) | (apply w_assign; exact rfl; exact rfl) | apply AWp.seq | apply AWp.region | ((apply AWp.condP; exact rfl) <;> intro h) | apply AWp.block | apply AWp.exit | apply AWp.skip | omega | ((first | apply w_leq | apply w_add); iterate 3 exact rfl) | (apply inI_of <;> omega))
        exact ⟨a + 1, by omega, by omega, by rw [hca]; exact ⟨lee rfl (by (repeat (first | exact le_nil | refine le_eq rfl rfl ?_))), by (repeat (first | exact lo_nil | refine lo_eq rfl ?_)), rfl, rfl⟩⟩
    · have ea : a = 18 := by omega
      subst ea
      repeat' (first | (apply AOps.nil; try simp only [List.nil_append, List.cons_append, List.set_cons_zero, List.set_cons_succ, List.length_cons, List.length_nil, Nat.reduceAdd, AV.sh, AV.sh1, AV.sh0, AO.sh, List.map_cons, List.map_nil, Nat.zero_add, Nat.add_zero, setAll]) | (apply w_move; exact rfl; exact rfl) | (apply w_assign; exact rfl; exact rfl) | apply AWp.seq | apply AWp.region | ((apply AWp.condP; exact rfl) <;> intro h) | apply AWp.block | apply AWp.exit | apply AWp.skip | omega | ((first | apply w_leq | apply w_add); iterate 3 exact rfl) | (apply inI_of <;> omega))
      exact ⟨n + 1, hn1, by omega, by rw [hcn]; exact ⟨lee rfl (by (repeat (first | exact le_nil | refine le_eq rfl rfl ?_))), by (repeat (first | exact lo_nil | refine lo_eq rfl ?_)), rfl, rfl⟩⟩
  · have en : n = fs.length := by omega
    subst en
    have hL := cnF_ok (fun n hn => (hf _ (getD_mem hn)).1.r) 17 (fun _ => 18) fs.length (Nat.le_refl _)
    have hld : ∀ p : Nat, (fndR (cnF fs 17 (fun _ => 18) fs.length) (p : Nat)).isSome = isLd fs p := fun p => ld_S (fun f hf2 => (hf f hf2).1) p
    generalize cnF fs 17 (fun _ => 18) fs.length = L at hL hld
    have hLl := hL.len
    have hvl := valsOf_len L
    repeat' (first | (apply AOps.nil; try simp only [List.nil_append, List.cons_append, List.set_cons_zero, List.set_cons_succ, List.length_cons, List.length_nil, Nat.reduceAdd, AV.sh, AV.sh1, AV.sh0, AO.sh, List.map_cons, List.map_nil, Nat.zero_add, Nat.add_zero, setAll]) | (apply w_move; exact rfl; exact rfl) | (apply w_assign; exact rfl; exact rfl) | apply AWp.seq | apply AWp.region | ((apply AWp.condP; exact rfl) <;> intro h) | apply AWp.block | apply AWp.exit | apply AWp.skip | ((apply w_lenps); iterate 2 exact rfl) | omega | ((apply w_lss); iterate 3 exact rfl) | (apply w_bs0; iterate 1 exact rfl))
    refine AWp.loop (ι := Nat) (fun d => ⟨139, [(3, .i 17), (6, .own 1), (14, .own 2), (15, .i d)]⟩) (fun d => [.dead, .sli 2 (valsOf L), .sli 2 (cntL (isLd fs) d)]) (fun d => d ≤ 18) (fun d => 18 - d) 0 (by omega) ⟨lee rfl (by (repeat (first | exact le_nil | refine le_eq rfl rfl ?_))), by (repeat (first | exact lo_nil | refine lo_dead ?_ | refine lo_eq rfl ?_)), rfl, rfl⟩ ?_
    rintro d hd0
    have hcl := cntL_len (isLd fs) d
    by_cases hd1 : d < 18
    · have hpk := pk_tk hL d
      rw [tkN_congr (Q := isLd fs) d (d + 1) fun j hj => hld (triN d + j)] at hpk
      have t1 := triN_int (d : Int) (by omega)
      have t2 := triN_int ((d : Int) + 1) (by omega)
      rw [Int.toNat_natCast] at t1
      rw [show ((d : Int) + 1).toNat = d + 1 by omega, show (d : Int) + 1 + 1 = (d : Int) + 2 by omega] at t2
      have t3 := triN_mono (show d + 1 ≤ 18 by omega)
      have t4 := triN_mono (show d ≤ 18 by omega)
      repeat' (first | (apply AOps.nil; try simp only [List.nil_append, List.cons_append, List.set_cons_zero, List.set_cons_succ, List.length_cons, List.length_nil, Nat.reduceAdd, AV.sh, AV.sh1, AV.sh0, AO.sh, List.map_cons, List.map_nil, Nat.zero_add, Nat.add_zero, setAll]) | (apply w_move; exact rfl; exact rfl) | (apply w_assign; exact rfl; exact rfl) | apply AWp.seq | apply AWp.region | ((apply AWp.condP; exact rfl) <;> intro h) | apply AWp.block | apply AWp.ret | apply AWp.exit | apply AWp.skip | omega | ((first | apply w_leq | apply w_add); iterate 3 exact rfl) | (apply inI_of <;> omega))
      refine AWp.loop (ι := Nat) (fun k => ⟨139, [(3, .i 17), (6, .own 1), (14, .own 2), (15, .i d), (16, .i ((d : Int) + 1 - (pkN L d k : Int))), (17, .i k)]⟩) (fun k => [.dead, .sli 2 (valsOf L), .sli 2 (cntL (isLd fs) d)]) (fun k => k ≤ L.length) (fun k => L.length - k) 0 (by omega) ?_ ?_
      · have e0 : (d : Int) + 1 - (pkN L d 0 : Int) = (d : Int) + 1 := by simp [pkN]
        exact ⟨lee rfl (by (repeat (first | exact le_nil | refine le_eq rfl rfl ?_))), by (repeat (first | exact lo_nil | refine lo_dead ?_ | refine lo_eq rfl ?_)), rfl, rfl⟩
      rintro k hk0
      have hple := pkN_le L d k
      by_cases hk1 : k < L.length
      · have q : AFnV Try.prog 37 [.i (geti (valsOf L) (((k : Nat) : Int).toNat : Nat)), .i ((d : Int) * ((d : Int) + 1) / 2), .i (((d : Int) + 1) * ((d : Int) + 2) / 2 - 1)] (.bool (decide ((triN d : Int) ≤ geti (valsOf L) (k : Nat) ∧ geti (valsOf L) (k : Nat) ≤ (triN (d + 1) : Int) - 1))) := by
          have q0 := l01In_c (geti (valsOf L) (((k : Nat) : Int).toNat : Nat)) ((d : Int) * ((d : Int) + 1) / 2) (((d : Int) + 1) * ((d : Int) + 2) / 2 - 1)
          have e : decide ((d : Int) * ((d : Int) + 1) / 2 ≤ geti (valsOf L) (((k : Nat) : Int).toNat : Nat) ∧ geti (valsOf L) (((k : Nat) : Int).toNat : Nat) ≤ ((d : Int) + 1) * ((d : Int) + 2) / 2 - 1) = decide ((triN d : Int) ≤ geti (valsOf L) (k : Nat) ∧ geti (valsOf L) (k : Nat) ≤ (triN (d + 1) : Int) - 1) := by
            rw [show (d : Int) * ((d : Int) + 1) / 2 = (triN d : Int) by omega, show ((d : Int) + 1) * ((d : Int) + 2) / 2 = (triN (d + 1) : Int) by omega, Int.toNat_natCast]
          rw [e] at q0
          exact q0
        by_cases hin : (triN d : Int) ≤ geti (valsOf L) (k : Nat) ∧ geti (valsOf L) (k : Nat) ≤ (triN (d + 1) : Int) - 1
        · have e1 : pkN L d (k + 1) = pkN L d k + 1 := by rw [pkN, if_pos hin]
          rw [decide_eq_true hin] at q
          repeat' (first | (apply AOps.nil; try simp only [List.nil_append, List.cons_append, List.set_cons_zero, List.set_cons_succ, List.length_cons, List.length_nil, Nat.reduceAdd, AV.sh, AV.sh1, AV.sh0, AO.sh, List.map_cons, List.map_nil, Nat.zero_add, Nat.add_zero, setAll]) | (apply w_move; exact rfl; exact rfl) | (apply w_assign; exact rfl; exact rfl) | apply AWp.seq | apply AWp.region | ((apply AWp.condP; exact rfl) <;> intro h) | (apply AWp.condT; exact rfl) | apply AWp.block | apply AWp.exit | apply AWp.skip | (apply w_len; exact rfl; exact rfl; first | exact .ints _ | exact .intss _ | exact .sli rfl | exact .sls rfl | exact .slr rfl | exact .orow rfl | exact .nil) | (apply w_call (q); exact rfl; exact rfl; focus ((repeat (first | exact im_nil | refine im_cons rfl (.val _) ?_)); done)) | omega | ((first | apply w_lss | apply w_add | apply w_sub | apply w_mul | apply w_idx | apply w_ld); iterate 3 exact rfl) | (apply w_quo; exact rfl; exact rfl; exact rfl; (focus (omega; done)); (focus (omega; done))) | (apply w_idxo; exact rfl; exact rfl; (exact .sli rfl); exact rfl) | (apply w_ldo; iterate 4 exact rfl) | (apply inI_of <;> omega))
          exact ⟨k + 1, hk1, by omega, ⟨lee rfl (by (repeat (first | exact le_nil | refine le_eq rfl rfl ?_ | refine le_eq rfl (congrArg AV.i (by omega)) ?_))), by (repeat (first | exact lo_nil | refine lo_dead ?_ | refine lo_eq rfl ?_)), rfl, rfl⟩⟩
        · have e1 : pkN L d (k + 1) = pkN L d k := by rw [pkN, if_neg hin]; rfl
          rw [decide_eq_false hin] at q
          repeat' (first | (apply AOps.nil; try simp only [List.nil_append, List.cons_append, List.set_cons_zero, List.set_cons_succ, List.length_cons, List.length_nil, Nat.reduceAdd, AV.sh, AV.sh1, AV.sh0, AO.sh, List.map_cons, List.map_nil, Nat.zero_add, Nat.add_zero, setAll]) | (apply w_move; exact rfl; exact rfl) | (apply w_assign; exact rfl; exact rfl) | apply AWp.seq | apply AWp.region | ((apply AWp.condP; exact rfl) <;> intro h) | (apply AWp.condF; exact rfl) | apply AWp.block | apply AWp.exit | apply AWp.skip | (apply w_len; exact rfl; exact rfl; first | exact .ints _ | exact .intss _ | exact .sli rfl | exact .sls rfl | exact .slr rfl | exact .orow rfl | exact .nil) | (apply w_call (q); exact rfl; exact rfl; focus ((repeat (first | exact im_nil | refine im_cons rfl (.val _) ?_)); done)) | omega | ((first | apply w_lss | apply w_add | apply w_sub | apply w_mul | apply w_idx | apply w_ld); iterate 3 exact rfl) | (apply w_quo; exact rfl; exact rfl; exact rfl; (focus (omega; done)); (focus (omega; done))) | (apply w_idxo; exact rfl; exact rfl; (exact .sli rfl); exact rfl) | (apply w_ldo; iterate 4 exact rfl) | (apply inI_of <;> omega))
          exact ⟨k + 1, hk1, by omega, ⟨lee rfl (by (repeat (first | exact le_nil | refine le_eq rfl rfl ?_ | refine le_eq rfl (congrArg AV.i (by omega)) ?_))), by (repeat (first | exact lo_nil | refine lo_dead ?_ | refine lo_eq rfl ?_)), rfl, rfl⟩⟩
      · have ek : k = L.length := by omega
        subst ek
        have hh := hcN_int (isLd fs) d
        rw [← hpk] at hh
        have e9 : cntL (isLd fs) d ++ [(d : Int) + 1 - (pkN L d L.length : Int)] = cntL (isLd fs) (d + 1) := by rw [← hh]; rfl
        repeat' (first | (apply AOps.nil; try simp only [List.nil_append, List.cons_append, List.set_cons_zero, List.set_cons_succ, List.length_cons, List.length_nil, Nat.reduceAdd, AV.sh, AV.sh1, AV.sh0, AO.sh, List.map_cons, List.map_nil, Nat.zero_add, Nat.add_zero, setAll]) | (apply w_move; exact rfl; exact rfl) | (apply w_assign; exact rfl; exact rfl) | apply AWp.seq | apply AWp.region | ((apply AWp.condP; exact rfl) <;> intro h) | apply AWp.block | apply AWp.exit | apply AWp.skip | (apply w_len; exact rfl; exact rfl; first | exact .ints _ | exact .intss _ | exact .sli rfl | exact .sls rfl | exact .slr rfl | exact .orow rfl | exact .nil) | omega | ((first | apply w_lss | apply w_add); iterate 3 exact rfl) | ((apply w_bs1); iterate 2 exact rfl) | (apply w_app; exact rfl; exact rfl; exact rfl; exact rfl; (exact .sli rfl); rotate_left 1; simp only [Env.mp, List.map_cons, List.map_nil, List.set_cons_zero, List.set_cons_succ, AV.kill, AV.kill1, AO.kill, AV.noRow, AV.noRow1, AO.via, reduceIte, Nat.reduceEqDiff, Nat.reduceLT, Env.up, Nat.zero_ne_one, Nat.one_ne_zero, Nat.reduceAdd, List.cons_append, List.nil_append]; rotate_left 1) | (apply inI_of <;> omega) | (simp <;> omega))
        exact ⟨d + 1, by omega, by omega, ⟨lee rfl (by (repeat (first | exact le_nil | refine le_eq rfl rfl ?_))), by (repeat (first | exact lo_nil | refine lo_dead ?_ | refine lo_eq rfl ?_ | refine lo_eq (congrArg (AO.sli _) (e9)) ?_)), rfl, rfl⟩⟩
    · have ed : d = 18 := by omega
      subst ed
      repeat' (first | (apply AOps.nil; try simp only [List.nil_append, List.cons_append, List.set_cons_zero, List.set_cons_succ, List.length_cons, List.length_nil, Nat.reduceAdd, AV.sh, AV.sh1, AV.sh0, AO.sh, List.map_cons, List.map_nil, Nat.zero_add, Nat.add_zero, setAll]) | (apply w_move; exact rfl; exact rfl) | (apply w_assign; exact rfl; exact rfl) | apply AWp.seq | apply AWp.region | ((apply AWp.condP; exact rfl) <;> intro h) | apply AWp.block | apply AWp.ret | apply AWp.exit | apply AWp.skip | omega | ((apply w_leq); iterate 3 exact rfl))
      exact ⟨_, _, _, .v1 Try.results86 rfl, .sli rfl, rfl, rfl⟩
end Go.Proofs.Ytifkgmbghcmdeaa
/-
  Local algebras: the counts up to the last one that is not 0. No condition but bounds.
-/
namespace Go.Proofs.Ytifkgmbghcmdeaa
open Go Go.RowKit
attribute [local irreducible] AWp AOps ResIs Ret1 QOp LOp COp AFnV AFn Imms LeE LeO
set_option maxHeartbeats 1000000
set_option linter.unusedSimpArgs false
set_option linter.unusedVariables false

theorem geti_snoc (l : List Int) (x : Int) (i : Nat) : geti (l ++ [x]) (i : Nat) = if i < l.length then geti l (i : Nat) else if i = l.length then x else 0 := by
  rw [geti_app]
  split
  · rfl
  · split
    · rename_i h; subst h; simp [geti]
    · rw [geti_out]; simp; omega
theorem geti_cnt (P : Nat → Bool) : ∀ (n d : Nat), d < n → geti (cntL P n) (d : Nat) = (hcN P d : Int)
  | n + 1, d, h => by
    rw [cntL, geti_snoc, cntL_len]
    by_cases e : d < n
    · rw [if_pos e]; exact geti_cnt P n d e
    · rw [if_neg e, if_pos (by omega), show d = n by omega]
theorem take_cnt (P : Nat → Bool) : ∀ (n d : Nat), d ≤ n → (cntL P n).take d = cntL P d
  | 0, d, h => by
    have : d = 0 := by omega
    subst this; rfl
  | n + 1, d, h => by
    by_cases e : d = n + 1
    · subst e; rw [List.take_of_length_le (by rw [cntL_len]; exact Nat.le_refl _)]
    · rw [cntL, List.take_append_of_le_length (by rw [cntL_len]; omega)]
      exact take_cnt P n d (by omega)
/-- The sum of the first n counts. -/
def sumH (P : Nat → Bool) : Nat → Nat
  | 0 => 0
  | n + 1 => sumH P n + hcN P n
/-- Nothing stops the scan below n. -/
def goOn (P : Nat → Bool) (n : Nat) : Prop := ∀ j, j < n → hcN P j ≠ 0 ∧ sumH P (j + 1) ≤ 16
def isStop (P : Nat → Bool) (d : Nat) : Prop := (hcN P d = 0 ∨ 16 < sumH P (d + 1)) ∧ goOn P d
theorem goOn_le {P : Nat → Bool} : ∀ n, goOn P n → n ≤ sumH P n
  | 0, _ => Nat.le_refl _
  | n + 1, h => by
    have := goOn_le n fun j hj => h j (by omega)
    have := (h n (by omega)).1
    rw [sumH]; omega
theorem goOn_17 {P : Nat → Bool} (h : goOn P 17) : False := by
  have h1 := goOn_le 17 h
  have h2 := (h 16 (by omega)).2
  simp only [show 16 + 1 = 17 from rfl] at h2
  omega
theorem stop_uniq {P : Nat → Bool} {a b : Nat} (h1 : isStop P a) (h2 : isStop P b) : a = b := by
  rcases Nat.lt_trichotomy a b with h | h | h
  · have := h2.2 a h; rcases h1.1 with e | e <;> omega
  · exact h
  · have := h1.2 b h; rcases h2.1 with e | e <;> omega
theorem goOn_succ {P : Nat → Bool} {n : Nat} (h : goOn P n) (h0 : hcN P n ≠ 0) (h1 : sumH P (n + 1) ≤ 16) : goOn P (n + 1) := fun j hj => by
  by_cases e : j = n
  · subst e; exact ⟨h0, h1⟩
  · exact h j (by omega)
open Classical in
noncomputable def stopN (P : Nat → Bool) : Nat := if h : ∃ d, isStop P d then Classical.choose h else 0
theorem stopN_eq {P : Nat → Bool} {d : Nat} (h : isStop P d) : stopN P = d := by
  have hx : ∃ d, isStop P d := ⟨d, h⟩
  unfold stopN
  rw [dif_pos hx]
  exact stop_uniq (Classical.choose_spec hx) h
/-- The error, and the counts. -/
noncomputable def locE (P : Nat → Bool) : Int := if hcN P (stopN P) = 0 then 0 else 3
noncomputable def locL (P : Nat → Bool) : List Int := if hcN P (stopN P) = 0 then cntL P (stopN P) else []
theorem loc_zero {P : Nat → Bool} {d : Nat} (h0 : hcN P d = 0) (hg : goOn P d) : locE P = 0 ∧ locL P = cntL P d := by
  have e := stopN_eq (P := P) (d := d) ⟨.inl h0, hg⟩
  unfold locE locL
  rw [e, if_pos h0, if_pos h0]; exact ⟨rfl, rfl⟩
theorem loc_big {P : Nat → Bool} {d : Nat} (h0 : hcN P d ≠ 0) (h1 : 16 < sumH P (d + 1)) (hg : goOn P d) : locE P = 3 ∧ locL P = [] := by
  have e := stopN_eq (P := P) (d := d) ⟨.inr h1, hg⟩
  unfold locE locL
  rw [e, if_neg h0, if_neg h0]; exact ⟨rfl, rfl⟩
theorem hcN_le (P : Nat → Bool) (d : Nat) : hcN P d ≤ d + 1 := by unfold hcN; omega
theorem sumH_go {P : Nat → Bool} {n : Nat} (h : goOn P n) : sumH P n ≤ 16 := by
  cases n with
  | zero => simp [sumH]
  | succ n => exact (h n (by omega)).2

/-- A part of a list, and a code. -/
def IsPC (T : TypeId) (xs : List Int) (e : Int) (r : AV) (os : List AO) : Prop := if e = 0 then ∃ (cs : List Int) (d : Nat), d ≤ cs.length ∧ (cs.drop 0).take d = xs ∧ r = .tup [.osub 0 0 d, .i 0] ∧ os = [.sli T cs] else r = .tup [.val (.slice none 0 0), .i e] ∧ os = []
theorem isPC_0 {T : TypeId} {xs : List Int} : IsPC T xs 0 = fun r os => ∃ (cs : List Int) (d : Nat), d ≤ cs.length ∧ (cs.drop 0).take d = xs ∧ r = .tup [.osub 0 0 d, .i 0] ∧ os = [.sli T cs] := by
  funext r os; unfold IsPC; rw [if_pos rfl]
theorem isPC_n {T : TypeId} {xs : List Int} {e : Int} (h : e ≠ 0) : IsPC T xs e = fun r os => r = .tup [.val (.slice none 0 0), .i e] ∧ os = [] := by
  funext r os; unfold IsPC; rw [if_neg h]

set_option maxHeartbeats 8000000 in
theorem localCounts_c (fs : List (List (List Int))) (hf : ∀ f ∈ fs, PoO f ∧ f.length ≤ 200) (hn : fs.length ≤ 1000) : AFn Try.prog 52 [.ro (polsRo fs)] (IsPC 2 (locL (isLd fs)) (locE (isLd fs))) := by
  have hcu := fun M hM => countsUpTo_c fs hf hn M hM
  generalize isLd fs = P at hcu ⊢
  (refine AFn.start Try.func52 Try.ntmps52 rfl (by kernel_rfl) fun hk => ?_; simp only [Env.start, enumF, List.length_cons, List.length_nil, Nat.reduceAdd, Nat.reduceSub, List.cons_append, List.nil_append])
  repeat' (first | (apply AOps.nil; try simp only [List.nil_append, List.cons_append, List.set_cons_zero, List.set_cons_succ, List.length_cons, List.length_nil, Nat.reduceAdd, AV.sh, AV.sh1, AV.sh0, AO.sh, List.map_cons, List.map_nil, Nat.zero_add, Nat.add_zero, setAll]) | (apply w_assign; exact rfl; exact rfl) | apply AWp.seq | apply AWp.region | apply AWp.block)
  refine AWp.loopS (ι := Nat) (fun M => ⟨35, [(0, .ro (polsRo fs)), (4, .i M)]⟩) (fun M => []) (fun M => M = 4 ∨ M = 8 ∨ M = 16 ∨ (M = 32 ∧ goOn P 17)) (fun M => 32 - M) 4 (.inl rfl) ⟨lee rfl (by (repeat (first | exact le_nil | refine le_eq rfl rfl ?_))), by (repeat (exact lo_nil)), rfl, rfl⟩ ?_
  intro M hM
  by_cases hM2 : M ≤ 16
  · have hc := hcu M (by omega)
    have hcl := cntL_len P (M + 1)
    repeat' (first | (apply AOps.nil; try simp only [List.nil_append, List.cons_append, List.set_cons_zero, List.set_cons_succ, List.length_cons, List.length_nil, Nat.reduceAdd, AV.sh, AV.sh1, AV.sh0, AO.sh, List.map_cons, List.map_nil, Nat.zero_add, Nat.add_zero, setAll]) | (apply w_move; exact rfl; exact rfl) | (apply w_assign; exact rfl; exact rfl) | apply AWp.seq | apply AWp.region | ((apply AWp.condP; exact rfl) <;> intro h) | apply AWp.block | apply AWp.ret | apply AWp.exit | apply AWp.skip | (apply w_len; exact rfl; exact rfl; first | exact .ints _ | exact .intss _ | exact .sli rfl | exact .sls rfl | exact .slr rfl | exact .orow rfl | exact .nil) | (apply w_callm (hc); (focus ((repeat (first | exact im_nil | refine im_cons rfl (.ro _) ?_ | refine im_cons rfl (.val _) ?_)); done)); rintro r os0 ⟨rfl, rfl⟩; try simp only [List.nil_append, List.cons_append, List.set_cons_zero, List.set_cons_succ, List.length_cons, List.length_nil, Nat.reduceAdd, AV.sh, AV.sh1, AV.sh0, AO.sh, List.map_cons, List.map_nil, Nat.zero_add, Nat.add_zero, setAll]) | omega | ((apply w_leq); iterate 3 exact rfl))
    refine AWp.loop (ι := Nat) (fun d => ⟨35, [(0, .ro (polsRo fs)), (4, .i M), (5, .i (sumH P d : Int)), (6, .own 0), (16, .own 0), (17, .i (M + 1 : Nat)), (18, .i d)]⟩) (fun d => [.sli 2 (cntL P (M + 1))]) (fun d => d ≤ M + 1 ∧ goOn P d) (fun d => M + 1 - d) 0 ⟨by omega, fun j hj => by omega⟩ ?_ ?_
    · have e0 : ((cntL P (M + 1)).length : Int) = ((M + 1 : Nat) : Int) := by rw [hcl]
      exact ⟨lee rfl (by (repeat (first | exact le_nil | refine le_eq rfl rfl ?_ | refine le_eq rfl (congrArg AV.i (by omega)) ?_))), by (repeat (first | exact lo_nil | refine lo_eq rfl ?_)), rfl, rfl⟩
    rintro d ⟨hd0, hg⟩
    by_cases hd1 : d < M + 1
    · have hgc : geti (cntL P (M + 1)) (((d : Nat) : Int).toNat : Nat) = (hcN P d : Int) := by rw [Int.toNat_natCast]; exact geti_cnt P (M + 1) d hd1
      have hle := hcN_le P d
      have hs := sumH_go hg
      have hss : sumH P (d + 1) = sumH P d + hcN P d := rfl
      by_cases h0 : hcN P d = 0
      · obtain ⟨e1, e2⟩ := loc_zero h0 hg
        repeat' (first | (apply AOps.nil; try simp only [List.nil_append, List.cons_append, List.set_cons_zero, List.set_cons_succ, List.length_cons, List.length_nil, Nat.reduceAdd, AV.sh, AV.sh1, AV.sh0, AO.sh, List.map_cons, List.map_nil, Nat.zero_add, Nat.add_zero, setAll]) | (apply w_move; exact rfl; exact rfl) | (apply w_assign; exact rfl; exact rfl) | apply AWp.seq | apply AWp.region | ((apply AWp.condP; exact rfl) <;> intro h) | apply AWp.block | apply AWp.ret | apply AWp.exit | apply AWp.skip | (apply w_slice3; iterate 5 exact rfl) | (rw [hgc]) | omega | ((first | apply w_lss | apply w_eql | apply w_idx | apply w_ld); iterate 3 exact rfl) | (apply w_idxo; exact rfl; exact rfl; (exact .sli rfl); exact rfl) | (apply w_ldo; iterate 4 exact rfl))
        rw [e1, e2, isPC_0]
        exact ⟨_, _, _, .a2 Try.results52 rfl rfl, .tup2 (.osub rfl), _, d, by omega, by rw [List.drop_zero]; exact take_cnt P _ d (by omega), rfl, rfl⟩
      · by_cases h1 : 16 < sumH P (d + 1)
        · obtain ⟨e1, e2⟩ := loc_big h0 h1 hg
          repeat' (first | (apply AOps.nil; try simp only [List.nil_append, List.cons_append, List.set_cons_zero, List.set_cons_succ, List.length_cons, List.length_nil, Nat.reduceAdd, AV.sh, AV.sh1, AV.sh0, AO.sh, List.map_cons, List.map_nil, Nat.zero_add, Nat.add_zero, setAll]) | (apply w_move; exact rfl; exact rfl) | (apply w_assign; exact rfl; exact rfl) | apply AWp.seq | apply AWp.region | ((apply AWp.condP; exact rfl) <;> intro h) | apply AWp.block | apply AWp.ret | apply AWp.exit | apply AWp.skip | (apply w_slice3; iterate 5 exact rfl) | (rw [hgc]) | omega | ((first | apply w_lss | apply w_gtr | apply w_eql | apply w_add | apply w_idx | apply w_ld); iterate 3 exact rfl) | (apply w_idxo; exact rfl; exact rfl; (exact .sli rfl); exact rfl) | (apply w_ldo; iterate 4 exact rfl) | (apply inI_of <;> omega))
          rw [e1, e2, isPC_n (by decide)]
          exact ⟨_, _, _, .a2 Try.results52 rfl rfl, .tup2 (.val _), rfl, rfl⟩
        · repeat' (first | (apply AOps.nil; try simp only [List.nil_append, List.cons_append, List.set_cons_zero, List.set_cons_succ, List.length_cons, List.length_nil, Nat.reduceAdd, AV.sh, AV.sh1, AV.sh0, AO.sh, List.map_cons, List.map_nil, Nat.zero_add, Nat.add_zero, setAll]) | (apply w_move; exact rfl; exact rfl) | (apply w_assign; exact rfl; exact rfl) | apply AWp.seq | apply AWp.region | ((apply AWp.condP; exact rfl) <;> intro h) | apply AWp.block | apply AWp.ret | apply AWp.exit | apply AWp.skip | (apply w_slice3; iterate 5 exact rfl) | (rw [hgc]) | omega | ((first | apply w_lss | apply w_gtr | apply w_eql | apply w_add | apply w_idx | apply w_ld); iterate 3 exact rfl) | (apply w_idxo; exact rfl; exact rfl; (exact .sli rfl); exact rfl) | (apply w_ldo; iterate 4 exact rfl) | (apply inI_of <;> omega))
          exact ⟨d + 1, ⟨hd1, goOn_succ hg h0 (by omega)⟩, by omega, ⟨lee rfl (by (repeat (first | exact le_nil | refine le_eq rfl rfl ?_))), by (repeat (first | exact lo_nil | refine lo_eq rfl ?_)), rfl, rfl⟩⟩
    · have ed : d = M + 1 := by omega
      subst ed
      repeat' (first | (apply AOps.nil; try simp only [List.nil_append, List.cons_append, List.set_cons_zero, List.set_cons_succ, List.length_cons, List.length_nil, Nat.reduceAdd, AV.sh, AV.sh1, AV.sh0, AO.sh, List.map_cons, List.map_nil, Nat.zero_add, Nat.add_zero, setAll]) | (apply w_move; exact rfl; exact rfl) | (apply w_assign; exact rfl; exact rfl) | apply AWp.seq | apply AWp.region | ((apply AWp.condP; exact rfl) <;> intro h) | apply AWp.block | apply AWp.exit | apply AWp.skip | omega | ((first | apply w_lss | apply w_mul); iterate 3 exact rfl) | (apply inI_of <;> omega))
      refine ⟨2 * M, ?_, by omega, .inl ⟨lee rfl (by (repeat (first | exact le_nil | refine le_eq rfl rfl ?_ | refine le_eq rfl (congrArg AV.i (by omega)) ?_))), by (repeat (exact lo_nil)), rfl, rfl⟩⟩
      rcases hM with rfl | rfl | rfl | ⟨rfl, _⟩
      · exact .inr (.inl rfl)
      · exact .inr (.inr (.inl rfl))
      · exact .inr (.inr (.inr ⟨rfl, hg⟩))
      · omega
  · exfalso
    rcases hM with rfl | rfl | rfl | ⟨_, h⟩
    · omega
    · omega
    · omega
    · exact goOn_17 h

set_option maxHeartbeats 8000000 in
theorem l17Local_c (fs : List (List (List Int))) (hf : ∀ f ∈ fs, PoO f ∧ f.length ≤ 200) (hn : fs.length ≤ 1000) : AFn Try.prog 49 [.ro (polsRo fs)] (IsRC 2 (locL (isLd fs)) (locE (isLd fs))) := by
  have hc := l17Counts_c fs hf hn
  generalize isLd fs = P at hc ⊢
  have hcl := cntL_len P 18
  (refine AFn.start Try.func49 Try.ntmps49 rfl (by kernel_rfl) fun hk => ?_; simp only [Env.start, enumF, List.length_cons, List.length_nil, Nat.reduceAdd, Nat.reduceSub, List.cons_append, List.nil_append])
  repeat' (first | (apply AOps.nil; try simp only [List.nil_append, List.cons_append, List.set_cons_zero, List.set_cons_succ, List.length_cons, List.length_nil, Nat.reduceAdd, AV.sh, AV.sh1, AV.sh0, AO.sh, List.map_cons, List.map_nil, Nat.zero_add, Nat.add_zero, setAll]) | (apply w_move; exact rfl; exact rfl) | (apply w_assign; exact rfl; exact rfl) | apply AWp.seq | apply AWp.region | apply AWp.block | (apply w_callm (hc); (focus ((repeat (first | exact im_nil | refine im_cons rfl (.ro _) ?_)); done)); rintro r os0 ⟨rfl, rfl⟩; try simp only [List.nil_append, List.cons_append, List.set_cons_zero, List.set_cons_succ, List.length_cons, List.length_nil, Nat.reduceAdd, AV.sh, AV.sh1, AV.sh0, AO.sh, List.map_cons, List.map_nil, Nat.zero_add, Nat.add_zero, setAll]) | (apply w_bs0; iterate 1 exact rfl))
  refine AWp.loop (ι := Nat) (fun d => ⟨38, [(4, .own 0), (5, .i (sumH P d : Int)), (6, .own 1), (7, .i d)]⟩) (fun d => [.sli 2 (cntL P 18), .sli 2 (cntL P d)]) (fun d => d ≤ 17 ∧ goOn P d) (fun d => 18 - d) 0 ⟨by omega, fun j hj => by omega⟩ ⟨lee rfl (by (repeat (first | exact le_nil | refine le_eq rfl rfl ?_))), by (repeat (first | exact lo_nil | refine lo_eq rfl ?_)), rfl, rfl⟩ ?_
  rintro d ⟨hd0, hg⟩
  have hd1 : d < 17 := by
    rcases Nat.lt_or_ge d 17 with h | h
    · exact h
    · have : d = 17 := by omega
      subst this
      exact (goOn_17 hg).elim
  have hgc : geti (cntL P 18) (((d : Nat) : Int).toNat : Nat) = (hcN P d : Int) := by rw [Int.toNat_natCast]; exact geti_cnt P 18 d (by omega)
  have hle := hcN_le P d
  have hs := sumH_go hg
  have hss : sumH P (d + 1) = sumH P d + hcN P d := rfl
  have hcd := cntL_len P d
  by_cases h0 : hcN P d = 0
  · obtain ⟨e1, e2⟩ := loc_zero h0 hg
    repeat' (first | (apply AOps.nil; try simp only [List.nil_append, List.cons_append, List.set_cons_zero, List.set_cons_succ, List.length_cons, List.length_nil, Nat.reduceAdd, AV.sh, AV.sh1, AV.sh0, AO.sh, List.map_cons, List.map_nil, Nat.zero_add, Nat.add_zero, setAll]) | (apply w_move; exact rfl; exact rfl) | (apply w_assign; exact rfl; exact rfl) | apply AWp.seq | apply AWp.region | ((apply AWp.condP; exact rfl) <;> intro h) | apply AWp.block | apply AWp.ret | apply AWp.exit | apply AWp.skip | (apply w_len; exact rfl; exact rfl; first | exact .ints _ | exact .intss _ | exact .sli rfl | exact .sls rfl | exact .slr rfl | exact .orow rfl | exact .nil) | (rw [hgc]) | omega | ((first | apply w_lss | apply w_eql | apply w_idx | apply w_ld); iterate 3 exact rfl) | (apply w_idxo; exact rfl; exact rfl; (exact .sli rfl); exact rfl) | (apply w_ldo; iterate 4 exact rfl))
    rw [e1, e2]
    exact ⟨_, _, _, .a2 Try.results49 rfl rfl, .tup2 (.sli rfl), rfl, rfl⟩
  · by_cases h1 : 16 < sumH P (d + 1)
    · obtain ⟨e1, e2⟩ := loc_big h0 h1 hg
      repeat' (first | (apply AOps.nil; try simp only [List.nil_append, List.cons_append, List.set_cons_zero, List.set_cons_succ, List.length_cons, List.length_nil, Nat.reduceAdd, AV.sh, AV.sh1, AV.sh0, AO.sh, List.map_cons, List.map_nil, Nat.zero_add, Nat.add_zero, setAll]) | (apply w_move; exact rfl; exact rfl) | (apply w_assign; exact rfl; exact rfl) | apply AWp.seq | apply AWp.region | ((apply AWp.condP; exact rfl) <;> intro h) | apply AWp.block | apply AWp.ret | apply AWp.exit | apply AWp.skip | (apply w_len; exact rfl; exact rfl; first | exact .ints _ | exact .intss _ | exact .sli rfl | exact .sls rfl | exact .slr rfl | exact .orow rfl | exact .nil) | (rw [hgc]) | omega | ((first | apply w_lss | apply w_gtr | apply w_eql | apply w_add | apply w_idx | apply w_ld); iterate 3 exact rfl) | ((apply w_bs1); iterate 2 exact rfl) | (apply w_idxo; exact rfl; exact rfl; (exact .sli rfl); exact rfl) | (apply w_ldo; iterate 4 exact rfl) | (apply w_app; exact rfl; exact rfl; exact rfl; exact rfl; (exact .sli rfl); rotate_left 1; simp only [Env.mp, List.map_cons, List.map_nil, List.set_cons_zero, List.set_cons_succ, AV.kill, AV.kill1, AO.kill, AV.noRow, AV.noRow1, AO.via, reduceIte, Nat.reduceEqDiff, Nat.reduceLT, Env.up, Nat.zero_ne_one, Nat.one_ne_zero, Nat.reduceAdd, List.cons_append, List.nil_append]; rotate_left 1) | (apply inI_of <;> omega) | (simp <;> omega))
      rw [e1, e2]
      exact ⟨_, _, _, .a2 Try.results49 rfl rfl, .tup2 (.nil _), rfl, rfl⟩
    · repeat' (first | (apply AOps.nil; try simp only [List.nil_append, List.cons_append, List.set_cons_zero, List.set_cons_succ, List.length_cons, List.length_nil, Nat.reduceAdd, AV.sh, AV.sh1, AV.sh0, AO.sh, List.map_cons, List.map_nil, Nat.zero_add, Nat.add_zero, setAll]) | (apply w_move; exact rfl; exact rfl) | (apply w_assign; exact rfl; exact rfl) | apply AWp.seq | apply AWp.region | ((apply AWp.condP; exact rfl) <;> intro h) | apply AWp.block | apply AWp.ret | apply AWp.exit | apply AWp.skip | (apply w_len; exact rfl; exact rfl; first | exact .ints _ | exact .intss _ | exact .sli rfl | exact .sls rfl | exact .slr rfl | exact .orow rfl | exact .nil) | (rw [hgc]) | omega | ((first | apply w_lss | apply w_gtr | apply w_eql | apply w_add | apply w_idx | apply w_ld); iterate 3 exact rfl) | ((apply w_bs1); iterate 2 exact rfl) | (apply w_idxo; exact rfl; exact rfl; (exact .sli rfl); exact rfl) | (apply w_ldo; iterate 4 exact rfl) | (apply w_app; exact rfl; exact rfl; exact rfl; exact rfl; (exact .sli rfl); rotate_left 1; simp only [Env.mp, List.map_cons, List.map_nil, List.set_cons_zero, List.set_cons_succ, AV.kill, AV.kill1, AO.kill, AV.noRow, AV.noRow1, AO.via, reduceIte, Nat.reduceEqDiff, Nat.reduceLT, Env.up, Nat.zero_ne_one, Nat.one_ne_zero, Nat.reduceAdd, List.cons_append, List.nil_append]; rotate_left 1) | (apply inI_of <;> omega) | (simp <;> omega))
      exact ⟨d + 1, ⟨by omega, goOn_succ hg h0 (by omega)⟩, by omega, ⟨lee rfl (by (repeat (first | exact le_nil | refine le_eq rfl rfl ?_))), by (repeat (first | exact lo_nil | refine lo_eq rfl ?_)), rfl, rfl⟩⟩
end Go.Proofs.Ytifkgmbghcmdeaa
/-
  Regions that draw their order: a load is taken first where nothing that may come ahead of it writes. No condition.
-/
namespace Go.Proofs.Ytifkgmbghcmdeaa
open Go Go.RowKit

/-- Whatever order is picked; behind an operation of G what was there is there still. -/
def wpAnyG (P : Program) (ops : Array Oper) (Q : Exit → Act → World → Prop) (G : Nat → Bool) : Nat → Array Bool → Act → World → Prop
  | 0, listed, a, w => Region.ready .any ops listed = [] ∧ Q .normal a w
  | fuel + 1, listed, a, w =>
    (Region.ready .any ops listed = [] → Q .normal a w) ∧
    ∀ i ∈ Region.ready .any ops listed, wpOp P ops Q i (fun a' w' => (G i = true → Below w.heap.size w w') ∧ wpAnyG P ops Q G fuel (listed.setIfInBounds i true) a' w') a w

/-- What writes nothing: no world asked, a load, a call of one of these functions. -/
def gentB (qs : List Nat) (o : Oper) : Bool :=
  wlessB o || match o.op with
    | .load _ _ => true
    | .call c => match c.callee with
      | .value (.func f) => qs.contains f
      | _ => false
    | _ => false
def gentle (qs : List Nat) (l : List Oper) (j : Nat) : Bool := match l[j]? with | some o => gentB qs o | none => false

def AAnyG (P : Program) (qs : List Nat) (l : List Oper) (fuel : Nat) (listed : List Bool) (K : APost) (env : Env) (os : List AO) : Prop :=
  ∀ base w0 w gs tm, Rel base w gs env os tm → Below base w0 w → ∀ X Rt, wpAnyG P l.toArray (Post base w0 K X Rt) (gentle qs l) fuel listed.toArray ⟨tm, []⟩ w

/-- Each of these comes up next. -/
def AllOfG (P : Program) (qs : List Nat) (l : List Oper) (fuel : Nat) (listed : List Bool) (K : APost) (env : Env) (os : List AO) : List Nat → Prop
  | [] => True
  | i :: is => (∃ o, l[i]? = some o ∧ AOps P (cond (gentB qs o) .quiet .seq) l [o] (fun env os => AAnyG P qs l fuel (listed.set i true) K env os) env os) ∧ AllOfG P qs l fuel listed K env os is

section
variable {P : Program} {N : APost} {X : Nat → APost} {Rt : APost} {env : Env} {os : List AO} {l : List Oper} {K : APost} {fuel : Nat} {listed : List Bool} {qs : List Nat}

theorem AllOfG.get : ∀ {rs : List Nat}, AllOfG P qs l fuel listed K env os rs → ∀ i ∈ rs, ∃ o, l[i]? = some o ∧ AOps P (cond (gentB qs o) .quiet .seq) l [o] (fun env os => AAnyG P qs l fuel (listed.set i true) K env os) env os
  | [], _, i, h => by cases h
  | j :: rs, h, i, hi => by
    rcases List.mem_cons.1 hi with rfl | hi
    · exact h.1
    · exact AllOfG.get h.2 i hi
theorem AllOfG.nil : AllOfG P qs l fuel listed K env os [] := trivial
theorem AAnyG.all {i : Nat} {is : List Nat} (hr : rdyGo listed 0 l = i :: is) (h : AllOfG P qs l fuel listed K env os (i :: is)) : AAnyG P qs l (fuel + 1) listed K env os := by
  intro base w0 w gs tm hrel hb X Rt
  refine ⟨fun h0 => ?_, fun j hj => ?_⟩
  · have : i ∈ Region.ready .any l.toArray listed.toArray := mem_rdy.2 (by rw [hr]; simp)
    rw [h0] at this; cases this
  · have hj' := mem_rdy.1 hj
    rw [hr] at hj'
    obtain ⟨o, ho, hop⟩ := h.get j hj'
    have ho' : l.toArray[j]? = some o := by simpa using ho
    have hgj : gentle qs l j = gentB qs o := by unfold gentle; rw [ho]
    have kk : ∀ a w', Post base w0 (fun env os => AAnyG P qs l fuel (listed.set j true) K env os) X Rt .normal a w' → wpAnyG P l.toArray (Post base w0 K X Rt) (gentle qs l) fuel (listed.toArray.setIfInBounds j true) a w' := by
      rintro a w' ⟨env', os', gs', h1, h2, h3, h4⟩
      have ea : a = ⟨a.tmps, []⟩ := by cases a; simp_all
      rw [ea]
      have := h4 base w0 w' gs' a.tmps h1 h3 X Rt
      rwa [show listed.toArray.setIfInBounds j true = (listed.set j true).toArray from by simp]
    cases hg : gentB qs o with
    | false =>
      rw [hg] at hop
      have := hop base w0 w gs tm hrel hb X Rt
      unfold wpOp
      rw [ho']
      unfold wpList at this
      simp only
      rw [hgj, hg]
      split
      · rename_i hw
        rw [if_pos hw] at this
        rcases this with this | ⟨h1, ⟨a, w', h2⟩⟩
        · exact .inl (Oper.wp_mono2 (fun a w' h => ⟨fun e => (by cases e), kk a w' h⟩) (fun _ _ _ h => (h : False).elim) (fun ⟨_, _, h⟩ => (h : False).elim) this)
        · exact (h2 : False).elim
      · rename_i hw
        rw [if_neg hw] at this
        exact ⟨fun e => (by cases e), kk _ _ this⟩
    | true =>
      rw [hg] at hop
      have := hop base w gs tm hrel
      unfold wpOp
      rw [ho']
      unfold wpQuiet at this
      simp only
      have kq : ∀ (a : Act) w', Below w.heap.size w w' → wpQuiet P l.toArray (fun w' => Below w.heap.size w w') (fun a' => ∃ env' os' gs', AAnyG P qs l fuel (listed.set j true) K env' os' ∧ a'.defers = [] ∧ ∀ w', Below w.heap.size w w' → Rel base w' gs' env' os' a'.tmps) [] a →
          (gentle qs l j = true → Below w.heap.size w w') ∧ wpAnyG P l.toArray (Post base w0 K X Rt) (gentle qs l) fuel (listed.toArray.setIfInBounds j true) a w' := by
        rintro a w' hbw ⟨env', os', gs', h1, h2, h3⟩
        exact ⟨fun _ => hbw, kk a w' ⟨env', os', gs', h3 w' hbw, h2, hb.trans (hbw.mono hrel.hb), h1⟩⟩
      split
      · rename_i hw
        rw [if_pos hw] at this
        obtain ⟨v, hv, hn⟩ := this
        refine .inl (Oper.wp_of_quiet (C := fun w' => Below w.heap.size w w') (K := fun a' => a' = Act.put ⟨tm, []⟩ o.dst v) (Below.refl _ _) ?_ ⟨v, hv, rfl⟩)
        intro a' w' hw' he
        subst he
        exact kq _ w' hw' hn
      · rename_i hw
        rw [if_neg hw] at this
        exact kq _ w (Below.refl _ _) this

theorem AAnyG.done (hr : rdyGo listed 0 l = []) (h : K env os) : AAnyG P qs l fuel listed K env os := by
  intro base w0 w gs tm hrel hb X Rt
  have hr' : Region.ready .any l.toArray listed.toArray = [] := by
    apply List.eq_nil_iff_forall_not_mem.2
    intro j hj
    have := mem_rdy.1 hj
    rw [hr] at this; cases this
  cases fuel with
  | zero => exact ⟨hr', env, os, gs, hrel, rfl, hb, h⟩
  | succ n => exact ⟨fun _ => ⟨env, os, gs, hrel, rfl, hb, h⟩, by rw [hr']; intro j hj; cases hj⟩

end
end Go.Proofs.Ytifkgmbghcmdeaa
/-
  A term put into terms in order: the reference's. No condition but a bound on the sizes.
-/
namespace Go.Proofs.Ytifkgmbghcmdeaa
open Go Go.RowKit
attribute [local irreducible] AWp AOps ResIs Ret1 QOp LOp COp AFnV AFn Imms LeE LeO
set_option maxHeartbeats 1000000
set_option linter.unusedSimpArgs false
set_option linter.unusedVariables false

/-- The term comes ahead of (i, j). -/
def bef (i j : Int) (t : List Int) : Prop := geti t 0 + geti t 1 < i + j ∨ (geti t 0 + geti t 1 = i + j ∧ geti t 0 < i)
instance (i j : Int) (t : List Int) : Decidable (bef i j t) := by unfold bef; infer_instance
end Go.Proofs.Ytifkgmbghcmdeaa
/-
  slices.SortFunc at slices of slices, by the library's own contract laid at this dump in plain words. No condition.
-/
namespace Go.Proofs.Ytifkgmbghcmdeaa
open Go Go.RowKit Go.Shelf
end Go.Proofs.Ytifkgmbghcmdeaa
/-
  slices.SortFunc at own slices of rows, by any function that compares rows. No condition.
-/
namespace Go.Proofs.Ytifkgmbghcmdeaa
open Go Go.RowKit Go.Sort

section
variable (enc : Nat → Value) (w : World) (blk m : Nat) (dk : Array Nat) (oss : Array Obj)
end

section
variable {env : Env} {os : List AO} {d : Option Tmp} {ty : TypeId} {pos : String} {af : Array Edge} {g : Option (Nat × Bool)}

end

section
variable {env : Env} {os : List AO} {d : Tmp} {ty : TypeId} {pos : String} {af : Array Edge} {l rest : List Oper} {K : APost}
end
end Go.Proofs.Ytifkgmbghcmdeaa
/-
  The comparison of terms that the sort is handed, walked by the kit's own steps. No condition but a bound on the exponents.
-/
namespace Go.Proofs.Ytifkgmbghcmdeaa
open Go Go.RowKit

end Go.Proofs.Ytifkgmbghcmdeaa
/-
  Partial derivatives, and sorted lists: the plain law. No program.
-/
namespace Go.Proofs.Ytifkgmbghcmdeaa
open Go Go.RowKit
attribute [local irreducible] AWp AOps ResIs Ret1 QOp LOp COp AFnV AFn Imms LeE LeO
set_option maxHeartbeats 1000000
set_option linter.unusedSimpArgs false
set_option linter.unusedVariables false

theorem po_bef {ts : List (List Int)} (h : isPo ts = true) : ∀ (d i : Nat), i + d + 1 < ts.length → Bef (gets ts (i : Nat)) (gets ts ((i + d + 1 : Nat) : Int))
  | 0, i, hi => by
    have := ((isPo_of h).2 (i + 1) (by omega)).2.2.2.2 (by omega)
    rw [show (((i + 1 : Nat) : Int) - 1) = (i : Int) by omega] at this
    exact this
  | d + 1, i, hi => by
    have ih := po_bef h d i (by omega)
    have := ((isPo_of h).2 (i + (d + 1) + 1) (by omega)).2.2.2.2 (by omega)
    rw [show (((i + (d + 1) + 1 : Nat) : Int) - 1) = ((i + d + 1 : Nat) : Int) by omega] at this
    unfold Bef at *
    omega
theorem po_lt {ts : List (List Int)} (h : isPo ts = true) {i j : Nat} (hij : i < j) (hj : j < ts.length) : Bef (gets ts (i : Nat)) (gets ts (j : Nat)) := by
  have := po_bef h (j - i - 1) i (by omega)
  rwa [show i + (j - i - 1) + 1 = j by omega] at this

end Go.Proofs.Ytifkgmbghcmdeaa
/-
  Local algebras: local counts and dimensions. No condition.
-/
namespace Go.Proofs.Ytifkgmbghcmdeaa
open Go Go.RowKit
attribute [local irreducible] AWp AOps ResIs Ret1 QOp LOp COp AFnV AFn Imms LeE LeO
set_option maxHeartbeats 1000000
set_option linter.unusedSimpArgs false
set_option linter.unusedVariables false

theorem poO_of {f : List (List Int)} (h : isPo f = true) : PoO f ∧ f.length ≤ 200 := by
  refine ⟨⟨poR_of h, fun k hk => ?_⟩, (isPo_of h).1⟩
  by_cases e : k = 0
  · subst e; exact Int.le_refl _
  · have := po_lt h (i := 0) (j := k) (by omega) hk
    unfold Bef at this
    simp only [show ((0 : Nat) : Int) = 0 from rfl] at this
    omega
/-- The polynomial has a term of a degree of at most d. -/
def lowB (f : List (List Int)) (d : Int) : Bool := decide (0 < f.length ∧ geti (gets f 0) 0 + geti (gets f 0) 1 ≤ d)
theorem hasTerm_c (f : List (List Int)) (hf : isPo f = true) (d : Int) : AFnV Try.prog 51 [.agg [.intss f], .i d] (.bool (lowB f d)) := by
  unfold lowB
  (refine AFnV.start Try.func51 Try.ntmps51 rfl (by kernel_rfl) fun hk => ?_; simp only [Env.start, enumF, List.length_cons, List.length_nil, Nat.reduceAdd, Nat.reduceSub, List.cons_append, List.nil_append])
  by_cases h0 : 0 < f.length
  · obtain ⟨r0, r1, r2, _⟩ := (isPo_of hf).2 0 h0
    simp only [show ((0 : Nat) : Int) = 0 from rfl] at r0 r1 r2
    repeat' (first | (apply AOps.nil; try simp only [List.nil_append, List.cons_append, List.set_cons_zero, List.set_cons_succ, List.length_cons, List.length_nil, Nat.reduceAdd, AV.sh, AV.sh1, AV.sh0, AO.sh, List.map_cons, List.map_nil, Nat.zero_add, Nat.add_zero, setAll]) | ((apply AOps.splitP; exact rfl; exact rfl) <;> intro h) | (apply w_move; exact rfl; exact rfl) | (apply w_assign; exact rfl; exact rfl) | apply AWp.seq | apply AWp.region | apply AWp.ret | (apply AWp.regionQ; kernel_rfl; kernel_rfl) | (apply w_skip; exact rfl) | (apply w_pickT; exact rfl; exact rfl; exact rfl) | (apply w_pickF; exact rfl; exact rfl; exact rfl) | (apply w_len; exact rfl; exact rfl; first | exact .ints _ | exact .intss _ | exact .sli rfl | exact .sls rfl | exact .slr rfl | exact .orow rfl | exact .nil) | omega | ((first | apply w_leq | apply w_gtr | apply w_add | apply w_idx | apply w_ld | apply w_fa); iterate 3 exact rfl) | ((first | apply w_idxs | apply w_lds); iterate 3 exact rfl) | ((apply w_boxa); iterate 2 exact rfl) | (apply w_ldb; iterate 5 exact rfl) | (apply inI_of <;> omega))
    all_goals exact .bool Try.results51 rfl (by simp [h0])
  · repeat' (first | (apply AOps.nil; try simp only [List.nil_append, List.cons_append, List.set_cons_zero, List.set_cons_succ, List.length_cons, List.length_nil, Nat.reduceAdd, AV.sh, AV.sh1, AV.sh0, AO.sh, List.map_cons, List.map_nil, Nat.zero_add, Nat.add_zero, setAll]) | ((apply AOps.splitP; exact rfl; exact rfl) <;> intro h) | (apply w_move; exact rfl; exact rfl) | (apply w_assign; exact rfl; exact rfl) | apply AWp.seq | apply AWp.region | apply AWp.ret | (apply AWp.regionQ; kernel_rfl; kernel_rfl) | (apply w_skip; exact rfl) | (apply w_pickF; exact rfl; exact rfl; exact rfl) | (apply w_len; exact rfl; exact rfl; first | exact .ints _ | exact .intss _ | exact .sli rfl | exact .sls rfl | exact .slr rfl | exact .orow rfl | exact .nil) | omega | ((first | apply w_gtr | apply w_ld | apply w_fa); iterate 3 exact rfl) | ((apply w_boxa); iterate 2 exact rfl) | (apply w_ldb; iterate 5 exact rfl))
    all_goals exact .bool Try.results51 rfl (by simp [h0])
theorem l17Low_c (f : List (List Int)) (hf : isPo f = true) (d : Int) : AFnV Try.prog 48 [.agg [.intss f], .i d] (.bool (lowB f (d - 1))) := by
  unfold lowB
  (refine AFnV.start Try.func48 Try.ntmps48 rfl (by kernel_rfl) fun hk => ?_; simp only [Env.start, enumF, List.length_cons, List.length_nil, Nat.reduceAdd, Nat.reduceSub, List.cons_append, List.nil_append])
  by_cases h0 : 0 < f.length
  · obtain ⟨r0, r1, r2, _⟩ := (isPo_of hf).2 0 h0
    simp only [show ((0 : Nat) : Int) = 0 from rfl] at r0 r1 r2
    repeat' (first | (apply AOps.nil; try simp only [List.nil_append, List.cons_append, List.set_cons_zero, List.set_cons_succ, List.length_cons, List.length_nil, Nat.reduceAdd, AV.sh, AV.sh1, AV.sh0, AO.sh, List.map_cons, List.map_nil, Nat.zero_add, Nat.add_zero, setAll]) | ((apply AOps.splitP; exact rfl; exact rfl) <;> intro h) | (apply w_move; exact rfl; exact rfl) | (apply w_assign; exact rfl; exact rfl) | apply AWp.seq | apply AWp.region | apply AWp.ret | (apply AWp.regionQ; kernel_rfl; kernel_rfl) | (apply w_skip; exact rfl) | (apply w_pickT; exact rfl; exact rfl; exact rfl) | (apply w_pickF; exact rfl; exact rfl; exact rfl) | (apply w_len; exact rfl; exact rfl; first | exact .ints _ | exact .intss _ | exact .sli rfl | exact .sls rfl | exact .slr rfl | exact .orow rfl | exact .nil) | omega | ((first | apply w_lss | apply w_gtr | apply w_add | apply w_idx | apply w_ld | apply w_fa); iterate 3 exact rfl) | ((first | apply w_idxs | apply w_lds); iterate 3 exact rfl) | ((apply w_boxa); iterate 2 exact rfl) | (apply w_ldb; iterate 5 exact rfl) | (apply inI_of <;> omega))
    all_goals exact .bool Try.results48 rfl (by rw [decide_eq_decide]; omega)
  · repeat' (first | (apply AOps.nil; try simp only [List.nil_append, List.cons_append, List.set_cons_zero, List.set_cons_succ, List.length_cons, List.length_nil, Nat.reduceAdd, AV.sh, AV.sh1, AV.sh0, AO.sh, List.map_cons, List.map_nil, Nat.zero_add, Nat.add_zero, setAll]) | ((apply AOps.splitP; exact rfl; exact rfl) <;> intro h) | (apply w_move; exact rfl; exact rfl) | (apply w_assign; exact rfl; exact rfl) | apply AWp.seq | apply AWp.region | apply AWp.ret | (apply AWp.regionQ; kernel_rfl; kernel_rfl) | (apply w_skip; exact rfl) | (apply w_pickF; exact rfl; exact rfl; exact rfl) | (apply w_len; exact rfl; exact rfl; first | exact .ints _ | exact .intss _ | exact .sli rfl | exact .sls rfl | exact .slr rfl | exact .orow rfl | exact .nil) | omega | ((first | apply w_gtr | apply w_ld | apply w_fa); iterate 3 exact rfl) | ((apply w_boxa); iterate 2 exact rfl) | (apply w_ldb; iterate 5 exact rfl))
    all_goals exact .bool Try.results48 rfl (by simp [h0])
theorem arePolys_c (fs : List (List (List Int))) (hn : fs.length ≤ 1048576) : AFnV Try.prog 50 [.ro (polsRo fs)] (.bool (fs.all isPo)) := by
  (refine AFnV.start Try.func50 Try.ntmps50 rfl (by kernel_rfl) fun hk => ?_; simp only [Env.start, enumF, List.length_cons, List.length_nil, Nat.reduceAdd, Nat.reduceSub, List.cons_append, List.nil_append])
  repeat' (first | (apply AOps.nil; try simp only [List.nil_append, List.cons_append, List.set_cons_zero, List.set_cons_succ, List.length_cons, List.length_nil, Nat.reduceAdd, AV.sh, AV.sh1, AV.sh0, AO.sh, List.map_cons, List.map_nil, Nat.zero_add, Nat.add_zero, setAll]) | (apply w_move; exact rfl; exact rfl) | (apply w_assign; exact rfl; exact rfl) | apply AWp.seq | apply AWp.region | apply AWp.block | ((apply w_lenps); iterate 2 exact rfl))
  refine AWp.loop (ι := Nat) (fun n => ⟨15, [(5, .ro (polsRo fs)), (6, .i fs.length), (7, .i n)]⟩) (fun n => []) (fun n => n ≤ fs.length ∧ ∀ j, j < n → isPo (fs.getD j []) = true) (fun n => fs.length - n) 0 ⟨by omega, fun j hj => by omega⟩ ⟨lee rfl (by (repeat (first | exact le_nil | refine le_eq rfl rfl ?_))), by (repeat (exact lo_nil)), rfl, rfl⟩ ?_
  rintro n ⟨h0, h1⟩
  by_cases hn1 : n < fs.length
  · have hq := implIsPoly_c (fs.getD n [])
    have hm : fs.getD n [] ∈ fs := getD_mem hn1
    have hfe2 : fs.getD ((n : Nat) : Int).toNat [] = fs.getD n [] := rfl
    cases hp : isPo (fs.getD n []) with
    | true =>
      rw [hp] at hq
      repeat' (first | (apply AOps.nil; try simp only [List.nil_append, List.cons_append, List.set_cons_zero, List.set_cons_succ, List.length_cons, List.length_nil, Nat.reduceAdd, AV.sh, AV.sh1, AV.sh0, AO.sh, List.map_cons, List.map_nil, Nat.zero_add, Nat.add_zero, setAll]) | (apply w_move; exact rfl; exact rfl) | (apply w_assign; exact rfl; exact rfl) | apply AWp.seq | apply AWp.region | ((apply AWp.condP; exact rfl) <;> intro h) | (apply AWp.condF; exact rfl) | apply AWp.block | apply AWp.ret | apply AWp.exit | apply AWp.skip | ((apply w_alst); iterate 2 exact rfl) | (apply w_idxps; iterate 3 exact rfl) | (apply w_ldps; iterate 3 exact rfl) | (apply w_call (hq); exact rfl; exact rfl; focus ((repeat (first | exact im_nil | refine im_cons rfl (im_agg1 (.intss _)) ?_)); done)) | omega | ((first | apply w_lss | apply w_add); iterate 3 exact rfl) | ((apply w_not); iterate 2 exact rfl) | (apply w_ldst; iterate 5 exact rfl) | (apply w_stst; iterate 5 exact rfl) | (apply inI_of <;> omega))
      refine ⟨n + 1, ⟨hn1, fun j hj => ?_⟩, by omega, ⟨lee rfl (by (repeat (first | exact le_nil | refine le_eq rfl rfl ?_))), by (repeat (exact lo_nil)), rfl, rfl⟩⟩
      by_cases e : j = n
      · subst e; exact hp
      · exact h1 j (by omega)
    | false =>
      rw [hp] at hq
      repeat' (first | (apply AOps.nil; try simp only [List.nil_append, List.cons_append, List.set_cons_zero, List.set_cons_succ, List.length_cons, List.length_nil, Nat.reduceAdd, AV.sh, AV.sh1, AV.sh0, AO.sh, List.map_cons, List.map_nil, Nat.zero_add, Nat.add_zero, setAll]) | (apply w_assign; exact rfl; exact rfl) | apply AWp.seq | apply AWp.region | ((apply AWp.condP; exact rfl) <;> intro h) | (apply AWp.condT; exact rfl) | apply AWp.block | apply AWp.ret | apply AWp.exit | apply AWp.skip | ((apply w_alst); iterate 2 exact rfl) | (apply w_idxps; iterate 3 exact rfl) | (apply w_ldps; iterate 3 exact rfl) | (apply w_call (hq); exact rfl; exact rfl; focus ((repeat (first | exact im_nil | refine im_cons rfl (im_agg1 (.intss _)) ?_)); done)) | omega | ((apply w_lss); iterate 3 exact rfl) | ((apply w_not); iterate 2 exact rfl) | (apply w_ldst; iterate 5 exact rfl) | (apply w_stst; iterate 5 exact rfl))
      exact .bool Try.results50 rfl (by
        symm
        rw [List.all_eq_false]
        exact ⟨_, hm, by rw [hp]; decide⟩)
  · have e : n = fs.length := by omega
    subst e
    repeat' (first | (apply AOps.nil; try simp only [List.nil_append, List.cons_append, List.set_cons_zero, List.set_cons_succ, List.length_cons, List.length_nil, Nat.reduceAdd, AV.sh, AV.sh1, AV.sh0, AO.sh, List.map_cons, List.map_nil, Nat.zero_add, Nat.add_zero, setAll]) | (apply w_assign; exact rfl; exact rfl) | apply AWp.seq | apply AWp.region | ((apply AWp.condP; exact rfl) <;> intro h) | apply AWp.block | apply AWp.ret | apply AWp.exit | apply AWp.skip | ((apply w_alst); iterate 2 exact rfl) | (apply w_idxps; iterate 3 exact rfl) | (apply w_ldps; iterate 3 exact rfl) | omega | ((apply w_lss); iterate 3 exact rfl))
    exact .bool Try.results50 rfl (by
      symm
      rw [List.all_eq_true]
      intro f hf
      obtain ⟨j, hj, rfl⟩ := List.getElem_of_mem hf
      have := h1 j hj
      rwa [List.getD_eq_getElem?_getD, List.getElem?_eq_getElem hj] at this)

theorem loc_at (P : Nat → Bool) : (locL P).length ≤ 17 ∧ ∀ i : Nat, i < (locL P).length → 0 ≤ geti (locL P) (i : Nat) ∧ geti (locL P) (i : Nat) ≤ 1000 := by
  have hx : ∃ d, isStop P d := by
    apply Classical.byContradiction
    intro hno
    have key : ∀ n, goOn P n := fun n => by
      induction n with
      | zero => exact fun j hj => by omega
      | succ n ih =>
        refine goOn_succ ih (fun e => hno ⟨n, .inl e, ih⟩) ?_
        rcases Nat.lt_or_ge 16 (sumH P (n + 1)) with h | h
        · exact absurd ⟨n, .inr h, ih⟩ hno
        · exact h
    exact goOn_17 (key 17)
  obtain ⟨d, hd⟩ := hx
  have e := stopN_eq hd
  have hd17 : d ≤ 16 := by
    rcases Nat.lt_or_ge 16 d with h | h
    · exact (goOn_17 fun j hj => hd.2 j (by omega)).elim
    · exact h
  unfold locL
  rw [e]
  split
  · refine ⟨by rw [cntL_len]; omega, fun i hi => ?_⟩
    rw [cntL_len] at hi
    rw [geti_cnt P d i hi]
    have := hcN_le P i
    omega
  · exact ⟨by simp, fun i hi => by simp at hi⟩
theorem locE_or (P : Nat → Bool) : locE P = 0 ∨ locE P = 3 := by unfold locE; split <;> simp
theorem locL_n {P : Nat → Bool} (h : locE P ≠ 0) : locL P = [] := by
  unfold locE at h
  unfold locL
  split
  · rename_i h2; rw [if_pos h2] at h; exact absurd rfl h
  · rfl

/-- The error of local counts. -/
noncomputable def lcsE (fs : List (List (List Int))) : Int := if fs.all isPo = false then 1 else if ¬ (1 ≤ fs.length ∧ fs.length ≤ 3) then 2 else if fs.any (fun f => lowB f 0) then 5 else locE (isLd fs)
/-- Local counts. -/
noncomputable def lcsL (fs : List (List (List Int))) : List Int := if fs.all isPo = false then [] else if ¬ (1 ≤ fs.length ∧ fs.length ≤ 3) then [] else if fs.any (fun f => lowB f 0) then [] else locL (isLd fs)
theorem lcs_at (fs : List (List (List Int))) : (lcsL fs).length ≤ 17 ∧ ∀ i : Nat, i < (lcsL fs).length → 0 ≤ geti (lcsL fs) (i : Nat) ∧ geti (lcsL fs) (i : Nat) ≤ 1000 := by
  have nil : ([] : List Int).length ≤ 17 ∧ ∀ i : Nat, i < ([] : List Int).length → 0 ≤ geti ([] : List Int) (i : Nat) ∧ geti ([] : List Int) (i : Nat) ≤ 1000 := ⟨by simp, fun i hi => by simp at hi⟩
  unfold lcsL
  split
  · exact nil
  split
  · exact nil
  split
  · exact nil
  exact loc_at _
theorem lcs_cases (fs : List (List (List Int))) : (fs.all isPo = false ∧ lcsE fs = 1 ∧ lcsL fs = []) ∨ (fs.all isPo = true ∧ ¬ (1 ≤ fs.length ∧ fs.length ≤ 3) ∧ lcsE fs = 2 ∧ lcsL fs = []) ∨
    (fs.all isPo = true ∧ (1 ≤ fs.length ∧ fs.length ≤ 3) ∧ fs.any (fun f => lowB f 0) = true ∧ lcsE fs = 5 ∧ lcsL fs = []) ∨ (fs.all isPo = true ∧ (1 ≤ fs.length ∧ fs.length ≤ 3) ∧ fs.any (fun f => lowB f 0) = false ∧ lcsE fs = locE (isLd fs) ∧ lcsL fs = locL (isLd fs)) := by
  unfold lcsE lcsL
  cases h : fs.all isPo
  · exact .inl ⟨rfl, by simp, by simp⟩
  · by_cases h2 : 1 ≤ fs.length ∧ fs.length ≤ 3
    · cases h3 : fs.any (fun f => lowB f 0)
      · exact .inr (.inr (.inr ⟨rfl, h2, rfl, by simp [h2], by simp [h2]⟩))
      · exact .inr (.inr (.inl ⟨rfl, h2, rfl, by simp [h2], by simp [h2]⟩))
    · exact .inr (.inl ⟨rfl, h2, by rw [if_neg (by simp), if_pos h2], by rw [if_neg (by simp), if_pos h2]⟩)

set_option maxHeartbeats 4000000 in
theorem implLocalCounts_c (fs : List (List (List Int))) (hn : fs.length ≤ 1048576) : AFn Try.prog 21 [.ro (polsRo fs)] (IsPC 2 (lcsL fs) (lcsE fs)) := by
  have q1 := arePolys_c fs hn
  rcases lcs_cases fs with ⟨h1, e1, e2⟩ | ⟨h1, h2, e1, e2⟩ | ⟨h1, h2, h3, e1, e2⟩ | ⟨h1, h2, h3, e1, e2⟩
  all_goals rw [e1, e2]
  all_goals rw [h1] at q1
  · rw [isPC_n (by decide)]
    (refine AFn.start Try.func21 Try.ntmps21 rfl (by kernel_rfl) fun hk => ?_; simp only [Env.start, enumF, List.length_cons, List.length_nil, Nat.reduceAdd, Nat.reduceSub, List.cons_append, List.nil_append])
    repeat' (first | (apply AOps.nil; try simp only [List.nil_append, List.cons_append, List.set_cons_zero, List.set_cons_succ, List.length_cons, List.length_nil, Nat.reduceAdd, AV.sh, AV.sh1, AV.sh0, AO.sh, List.map_cons, List.map_nil, Nat.zero_add, Nat.add_zero, setAll]) | (apply w_move; exact rfl; exact rfl) | (apply w_assign; exact rfl; exact rfl) | apply AWp.seq | apply AWp.region | (apply AWp.condT; exact rfl) | apply AWp.ret | (apply w_call (q1); exact rfl; exact rfl; focus ((repeat (first | exact im_nil | refine im_cons rfl (.ro _) ?_)); done)) | ((apply w_not); iterate 2 exact rfl))
    all_goals exact ⟨_, _, _, .a2 Try.results21 rfl rfl, .tup2 (.val _), rfl, rfl⟩
  · rw [isPC_n (by decide)]
    (refine AFn.start Try.func21 Try.ntmps21 rfl (by kernel_rfl) fun hk => ?_; simp only [Env.start, enumF, List.length_cons, List.length_nil, Nat.reduceAdd, Nat.reduceSub, List.cons_append, List.nil_append])
    repeat' (first | (apply AOps.nil; try simp only [List.nil_append, List.cons_append, List.set_cons_zero, List.set_cons_succ, List.length_cons, List.length_nil, Nat.reduceAdd, AV.sh, AV.sh1, AV.sh0, AO.sh, List.map_cons, List.map_nil, Nat.zero_add, Nat.add_zero, setAll]) | ((apply AOps.splitP; exact rfl; exact rfl) <;> intro h) | (apply w_move; exact rfl; exact rfl) | (apply w_assign; exact rfl; exact rfl) | apply AWp.seq | apply AWp.region | ((apply AWp.condP; exact rfl) <;> intro h) | (apply AWp.condT; exact rfl) | (apply AWp.condF; exact rfl) | apply AWp.block | apply AWp.ret | apply AWp.skip | (apply w_skip; exact rfl) | (apply w_pickT; exact rfl; exact rfl; exact rfl) | (apply w_pickF; exact rfl; exact rfl; exact rfl) | ((apply w_lenps); iterate 2 exact rfl) | (apply w_call (q1); exact rfl; exact rfl; focus ((repeat (first | exact im_nil | refine im_cons rfl (.ro _) ?_)); done)) | omega | ((first | apply w_lss | apply w_gtr); iterate 3 exact rfl) | ((apply w_not); iterate 2 exact rfl))
    all_goals exact ⟨_, _, _, .a2 Try.results21 rfl rfl, .tup2 (.val _), rfl, rfl⟩
  all_goals have hpo : ∀ n : Nat, n < fs.length → isPo (fs.getD n []) = true := fun n hn => List.all_eq_true.1 h1 _ (getD_mem hn)
  · rw [isPC_n (by decide)]
    (refine AFn.start Try.func21 Try.ntmps21 rfl (by kernel_rfl) fun hk => ?_; simp only [Env.start, enumF, List.length_cons, List.length_nil, Nat.reduceAdd, Nat.reduceSub, List.cons_append, List.nil_append])
    repeat' (first | (apply AOps.nil; try simp only [List.nil_append, List.cons_append, List.set_cons_zero, List.set_cons_succ, List.length_cons, List.length_nil, Nat.reduceAdd, AV.sh, AV.sh1, AV.sh0, AO.sh, List.map_cons, List.map_nil, Nat.zero_add, Nat.add_zero, setAll]) | ((apply AOps.splitP; exact rfl; exact rfl) <;> intro h) | (apply w_move; exact rfl; exact rfl) | (apply w_assign; exact rfl; exact rfl) | apply AWp.seq | apply AWp.region | ((apply AWp.condP; exact rfl) <;> intro h) | (apply AWp.condT; exact rfl) | (apply AWp.condF; exact rfl) | apply AWp.block | apply AWp.ret | apply AWp.skip | (apply w_skip; exact rfl) | (apply w_pickT; exact rfl; exact rfl; exact rfl) | (apply w_pickF; exact rfl; exact rfl; exact rfl) | ((apply w_lenps); iterate 2 exact rfl) | (apply w_call (q1); exact rfl; exact rfl; focus ((repeat (first | exact im_nil | refine im_cons rfl (.ro _) ?_)); done)) | omega | ((first | apply w_lss | apply w_gtr); iterate 3 exact rfl) | ((apply w_not); iterate 2 exact rfl))
    refine AWp.loop (ι := Nat) (fun n => ⟨30, [(0, .ro (polsRo fs)), (17, .ro (polsRo fs)), (18, .i fs.length), (19, .i n)]⟩) (fun n => []) (fun n => n ≤ fs.length ∧ ∀ j, j < n → lowB (fs.getD j []) 0 = false) (fun n => fs.length - n) 0 ⟨by omega, fun j hj => by omega⟩ ⟨lee rfl (by (repeat (first | exact le_nil | refine le_eq rfl rfl ?_))), by (repeat (exact lo_nil)), rfl, rfl⟩ ?_
    rintro n ⟨h0, h4⟩
    by_cases hn1 : n < fs.length
    · have hq := hasTerm_c (fs.getD n []) (hpo n hn1) 0
      cases hp : lowB (fs.getD n []) 0 with
      | true =>
        rw [hp] at hq
        repeat' (first | (apply AOps.nil; try simp only [List.nil_append, List.cons_append, List.set_cons_zero, List.set_cons_succ, List.length_cons, List.length_nil, Nat.reduceAdd, AV.sh, AV.sh1, AV.sh0, AO.sh, List.map_cons, List.map_nil, Nat.zero_add, Nat.add_zero, setAll]) | (apply w_move; exact rfl; exact rfl) | (apply w_assign; exact rfl; exact rfl) | apply AWp.seq | apply AWp.region | ((apply AWp.condP; exact rfl) <;> intro h) | (apply AWp.condT; exact rfl) | apply AWp.block | apply AWp.ret | apply AWp.exit | apply AWp.skip | ((apply w_alst); iterate 2 exact rfl) | (apply w_idxps; iterate 3 exact rfl) | (apply w_ldps; iterate 3 exact rfl) | (apply w_call (hq); exact rfl; exact rfl; focus ((repeat (first | exact im_nil | refine im_cons rfl (.val _) ?_ | refine im_cons rfl (im_agg1 (.intss _)) ?_)); done)) | omega | ((apply w_lss); iterate 3 exact rfl) | (apply w_ldst; iterate 5 exact rfl) | (apply w_stst; iterate 5 exact rfl))
        exact ⟨_, _, _, .a2 Try.results21 rfl rfl, .tup2 (.val _), rfl, rfl⟩
      | false =>
        rw [hp] at hq
        repeat' (first | (apply AOps.nil; try simp only [List.nil_append, List.cons_append, List.set_cons_zero, List.set_cons_succ, List.length_cons, List.length_nil, Nat.reduceAdd, AV.sh, AV.sh1, AV.sh0, AO.sh, List.map_cons, List.map_nil, Nat.zero_add, Nat.add_zero, setAll]) | (apply w_move; exact rfl; exact rfl) | apply AWp.seq | apply AWp.region | ((apply AWp.condP; exact rfl) <;> intro h) | (apply AWp.condF; exact rfl) | apply AWp.block | apply AWp.exit | apply AWp.skip | ((apply w_alst); iterate 2 exact rfl) | (apply w_idxps; iterate 3 exact rfl) | (apply w_ldps; iterate 3 exact rfl) | (apply w_call (hq); exact rfl; exact rfl; focus ((repeat (first | exact im_nil | refine im_cons rfl (.val _) ?_ | refine im_cons rfl (im_agg1 (.intss _)) ?_)); done)) | omega | ((first | apply w_lss | apply w_add); iterate 3 exact rfl) | (apply w_ldst; iterate 5 exact rfl) | (apply w_stst; iterate 5 exact rfl) | (apply inI_of <;> omega))
        refine ⟨n + 1, ⟨hn1, fun j hj => ?_⟩, by omega, ⟨lee rfl (by (repeat (first | exact le_nil | refine le_eq rfl rfl ?_))), by (repeat (exact lo_nil)), rfl, rfl⟩⟩
        by_cases e : j = n
        · subst e; exact hp
        · exact h4 j (by omega)
    · exfalso
      obtain ⟨f, hf, hlow⟩ := List.any_eq_true.1 h3
      obtain ⟨j, hj, rfl⟩ := List.getElem_of_mem hf
      have := h4 j (by omega)
      rw [List.getD_eq_getElem?_getD, List.getElem?_eq_getElem hj] at this
      simp only [Option.getD_some] at this
      rw [this] at hlow; cases hlow
  · have hlo : ∀ n : Nat, n < fs.length → lowB (fs.getD n []) 0 = false := fun n hn => by
      have := List.any_eq_false.1 h3 _ (getD_mem (d := []) hn)
      simpa using this
    have hloc := localCounts_c fs (fun f hf => poO_of (List.all_eq_true.1 h1 f hf)) (by omega)
    rcases locE_or (isLd fs) with hE | hE
    · rw [hE] at hloc ⊢
      rw [isPC_0] at hloc ⊢
      (refine AFn.start Try.func21 Try.ntmps21 rfl (by kernel_rfl) fun hk => ?_; simp only [Env.start, enumF, List.length_cons, List.length_nil, Nat.reduceAdd, Nat.reduceSub, List.cons_append, List.nil_append])
      repeat' (first | (apply AOps.nil; try simp only [List.nil_append, List.cons_append, List.set_cons_zero, List.set_cons_succ, List.length_cons, List.length_nil, Nat.reduceAdd, AV.sh, AV.sh1, AV.sh0, AO.sh, List.map_cons, List.map_nil, Nat.zero_add, Nat.add_zero, setAll]) | ((apply AOps.splitP; exact rfl; exact rfl) <;> intro h) | (apply w_move; exact rfl; exact rfl) | (apply w_assign; exact rfl; exact rfl) | apply AWp.seq | apply AWp.region | ((apply AWp.condP; exact rfl) <;> intro h) | (apply AWp.condT; exact rfl) | (apply AWp.condF; exact rfl) | apply AWp.block | apply AWp.ret | apply AWp.skip | (apply w_skip; exact rfl) | (apply w_pickT; exact rfl; exact rfl; exact rfl) | (apply w_pickF; exact rfl; exact rfl; exact rfl) | ((apply w_lenps); iterate 2 exact rfl) | (apply w_call (q1); exact rfl; exact rfl; focus ((repeat (first | exact im_nil | refine im_cons rfl (.ro _) ?_)); done)) | omega | ((first | apply w_lss | apply w_gtr); iterate 3 exact rfl) | ((apply w_not); iterate 2 exact rfl))
      refine AWp.loop (ι := Nat) (fun n => ⟨30, [(0, .ro (polsRo fs)), (17, .ro (polsRo fs)), (18, .i fs.length), (19, .i n)]⟩) (fun n => []) (fun n => n ≤ fs.length) (fun n => fs.length - n) 0 (by omega) ⟨lee rfl (by (repeat (first | exact le_nil | refine le_eq rfl rfl ?_))), by (repeat (exact lo_nil)), rfl, rfl⟩ ?_
      rintro n h0
      by_cases hn1 : n < fs.length
      · have hq := hasTerm_c (fs.getD n []) (hpo n hn1) 0
        rw [hlo n hn1] at hq
        repeat' (first | (apply AOps.nil; try simp only [List.nil_append, List.cons_append, List.set_cons_zero, List.set_cons_succ, List.length_cons, List.length_nil, Nat.reduceAdd, AV.sh, AV.sh1, AV.sh0, AO.sh, List.map_cons, List.map_nil, Nat.zero_add, Nat.add_zero, setAll]) | (apply w_move; exact rfl; exact rfl) | apply AWp.seq | apply AWp.region | ((apply AWp.condP; exact rfl) <;> intro h) | (apply AWp.condF; exact rfl) | apply AWp.block | apply AWp.exit | apply AWp.skip | ((apply w_alst); iterate 2 exact rfl) | (apply w_idxps; iterate 3 exact rfl) | (apply w_ldps; iterate 3 exact rfl) | (apply w_call (hq); exact rfl; exact rfl; focus ((repeat (first | exact im_nil | refine im_cons rfl (.val _) ?_ | refine im_cons rfl (im_agg1 (.intss _)) ?_)); done)) | omega | ((first | apply w_lss | apply w_add); iterate 3 exact rfl) | (apply w_ldst; iterate 5 exact rfl) | (apply w_stst; iterate 5 exact rfl) | (apply inI_of <;> omega))
        exact ⟨n + 1, hn1, by omega, ⟨lee rfl (by (repeat (first | exact le_nil | refine le_eq rfl rfl ?_))), by (repeat (exact lo_nil)), rfl, rfl⟩⟩
      · repeat' (first | (apply AOps.nil; try simp only [List.nil_append, List.cons_append, List.set_cons_zero, List.set_cons_succ, List.length_cons, List.length_nil, Nat.reduceAdd, AV.sh, AV.sh1, AV.sh0, AO.sh, List.map_cons, List.map_nil, Nat.zero_add, Nat.add_zero, setAll]) | (apply w_move; exact rfl; exact rfl) | (apply w_assign; exact rfl; exact rfl) | apply AWp.seq | apply AWp.region | ((apply AWp.condP; exact rfl) <;> intro h) | apply AWp.block | apply AWp.ret | apply AWp.exit | apply AWp.skip | ((apply w_alst); iterate 2 exact rfl) | (apply w_idxps; iterate 3 exact rfl) | (apply w_ldps; iterate 3 exact rfl) | (apply w_callm (hloc); (focus ((repeat (first | exact im_nil | refine im_cons rfl (.ro _) ?_)); done)); rintro r os0 ⟨cs, dd, hd1, hd2, rfl, rfl⟩; try simp only [List.nil_append, List.cons_append, List.set_cons_zero, List.set_cons_succ, List.length_cons, List.length_nil, Nat.reduceAdd, AV.sh, AV.sh1, AV.sh0, AO.sh, List.map_cons, List.map_nil, Nat.zero_add, Nat.add_zero, setAll]) | omega | ((first | apply w_lss | apply w_extv); iterate 3 exact rfl) | ((apply w_ext); iterate 3 exact rfl))
        exact ⟨_, _, _, .a2 Try.results21 rfl rfl, .tup2 (.osub rfl), cs, dd, hd1, hd2, rfl, rfl⟩
    · rw [hE] at hloc ⊢
      rw [isPC_n (by decide)] at hloc ⊢
      (refine AFn.start Try.func21 Try.ntmps21 rfl (by kernel_rfl) fun hk => ?_; simp only [Env.start, enumF, List.length_cons, List.length_nil, Nat.reduceAdd, Nat.reduceSub, List.cons_append, List.nil_append])
      repeat' (first | (apply AOps.nil; try simp only [List.nil_append, List.cons_append, List.set_cons_zero, List.set_cons_succ, List.length_cons, List.length_nil, Nat.reduceAdd, AV.sh, AV.sh1, AV.sh0, AO.sh, List.map_cons, List.map_nil, Nat.zero_add, Nat.add_zero, setAll]) | ((apply AOps.splitP; exact rfl; exact rfl) <;> intro h) | (apply w_move; exact rfl; exact rfl) | (apply w_assign; exact rfl; exact rfl) | apply AWp.seq | apply AWp.region | ((apply AWp.condP; exact rfl) <;> intro h) | (apply AWp.condT; exact rfl) | (apply AWp.condF; exact rfl) | apply AWp.block | apply AWp.ret | apply AWp.skip | (apply w_skip; exact rfl) | (apply w_pickT; exact rfl; exact rfl; exact rfl) | (apply w_pickF; exact rfl; exact rfl; exact rfl) | ((apply w_lenps); iterate 2 exact rfl) | (apply w_call (q1); exact rfl; exact rfl; focus ((repeat (first | exact im_nil | refine im_cons rfl (.ro _) ?_)); done)) | omega | ((first | apply w_lss | apply w_gtr); iterate 3 exact rfl) | ((apply w_not); iterate 2 exact rfl))
      refine AWp.loop (ι := Nat) (fun n => ⟨30, [(0, .ro (polsRo fs)), (17, .ro (polsRo fs)), (18, .i fs.length), (19, .i n)]⟩) (fun n => []) (fun n => n ≤ fs.length) (fun n => fs.length - n) 0 (by omega) ⟨lee rfl (by (repeat (first | exact le_nil | refine le_eq rfl rfl ?_))), by (repeat (exact lo_nil)), rfl, rfl⟩ ?_
      rintro n h0
      by_cases hn1 : n < fs.length
      · have hq := hasTerm_c (fs.getD n []) (hpo n hn1) 0
        rw [hlo n hn1] at hq
        repeat' (first | (apply AOps.nil; try simp only [List.nil_append, List.cons_append, List.set_cons_zero, List.set_cons_succ, List.length_cons, List.length_nil, Nat.reduceAdd, AV.sh, AV.sh1, AV.sh0, AO.sh, List.map_cons, List.map_nil, Nat.zero_add, Nat.add_zero, setAll]) | (apply w_move; exact rfl; exact rfl) | apply AWp.seq | apply AWp.region | ((apply AWp.condP; exact rfl) <;> intro h) | (apply AWp.condF; exact rfl) | apply AWp.block | apply AWp.exit | apply AWp.skip | ((apply w_alst); iterate 2 exact rfl) | (apply w_idxps; iterate 3 exact rfl) | (apply w_ldps; iterate 3 exact rfl) | (apply w_call (hq); exact rfl; exact rfl; focus ((repeat (first | exact im_nil | refine im_cons rfl (.val _) ?_ | refine im_cons rfl (im_agg1 (.intss _)) ?_)); done)) | omega | ((first | apply w_lss | apply w_add); iterate 3 exact rfl) | (apply w_ldst; iterate 5 exact rfl) | (apply w_stst; iterate 5 exact rfl) | (apply inI_of <;> omega))
        exact ⟨n + 1, hn1, by omega, ⟨lee rfl (by (repeat (first | exact le_nil | refine le_eq rfl rfl ?_))), by (repeat (exact lo_nil)), rfl, rfl⟩⟩
      · repeat' (first | (apply AOps.nil; try simp only [List.nil_append, List.cons_append, List.set_cons_zero, List.set_cons_succ, List.length_cons, List.length_nil, Nat.reduceAdd, AV.sh, AV.sh1, AV.sh0, AO.sh, List.map_cons, List.map_nil, Nat.zero_add, Nat.add_zero, setAll]) | (apply w_move; exact rfl; exact rfl) | (apply w_assign; exact rfl; exact rfl) | apply AWp.seq | apply AWp.region | ((apply AWp.condP; exact rfl) <;> intro h) | apply AWp.block | apply AWp.ret | apply AWp.exit | apply AWp.skip | ((apply w_alst); iterate 2 exact rfl) | (apply w_idxps; iterate 3 exact rfl) | (apply w_ldps; iterate 3 exact rfl) | (apply w_callm (hloc); (focus ((repeat (first | exact im_nil | refine im_cons rfl (.ro _) ?_)); done)); rintro r os0 ⟨rfl, rfl⟩; try simp only [List.nil_append, List.cons_append, List.set_cons_zero, List.set_cons_succ, List.length_cons, List.length_nil, Nat.reduceAdd, AV.sh, AV.sh1, AV.sh0, AO.sh, List.map_cons, List.map_nil, Nat.zero_add, Nat.add_zero, setAll]) | omega | ((first | apply w_lss | apply w_extv); iterate 3 exact rfl) | ((apply w_ext); iterate 3 exact rfl))
        exact ⟨_, _, _, .a2 Try.results21 rfl rfl, .tup2 (.val _), rfl, rfl⟩
end Go.Proofs.Ytifkgmbghcmdeaa
/-
  bits.Len, by the library's own contract laid at this dump in plain words. No condition.
-/
namespace Go.Proofs.Ytifkgmbghcmdeaa
open Go Go.RowKit Go.Shelf
end Go.Proofs.Ytifkgmbghcmdeaa
/-
  slices.SortFunc at an empty slice of rows. No condition.
-/
namespace Go.Proofs.Ytifkgmbghcmdeaa
open Go Go.RowKit

attribute [local irreducible] AWp AOps ResIs Ret1 QOp LOp COp AFnV AFn Imms LeE LeO
set_option maxHeartbeats 1000000
set_option linter.unusedSimpArgs false
set_option linter.unusedVariables false

end Go.Proofs.Ytifkgmbghcmdeaa
/-
  Partial derivatives: in the program and in the reference. No condition.
-/
namespace Go.Proofs.Ytifkgmbghcmdeaa
open Go Go.RowKit
attribute [local irreducible] AWp AOps ResIs Ret1 QOp LOp COp AFnV AFn Imms LeE LeO
set_option maxHeartbeats 1000000
set_option linter.unusedSimpArgs false
set_option linter.unusedVariables false

end Go.Proofs.Ytifkgmbghcmdeaa
/-
  Local algebras: critical points. No condition.
-/
namespace Go.Proofs.Ytifkgmbghcmdeaa
open Go Go.RowKit
attribute [local irreducible] AWp AOps ResIs Ret1 QOp LOp COp AFnV AFn Imms LeE LeO
set_option maxHeartbeats 1000000
set_option linter.unusedSimpArgs false
set_option linter.unusedVariables false

end Go.Proofs.Ytifkgmbghcmdeaa
/-
  The laws of Milnor and Tjurina numbers. No condition.
-/
namespace Go.Proofs.Ytifkgmbghcmdeaa
open Go Go.RowKit
attribute [local irreducible] AWp AOps ResIs Ret1 QOp LOp COp AFnV AFn Imms LeE LeO
set_option maxHeartbeats 1000000
set_option linter.unusedSimpArgs false
set_option linter.unusedVariables false

end Go.Proofs.Ytifkgmbghcmdeaa
/-
  Own slices of structs of one slice of rows: all of it own memory. No condition.
-/
namespace Go.Proofs.Ytifkgmbghcmdeaa
open Go Go.RowKit
set_option linter.unusedVariables false
set_option linter.unusedSimpArgs false

abbrev Pls := List (List (List Int))
/-- The part 'p' reads as the rows 'f'. -/
def PartP (e1 e2 : TypeId) (f : List (List Int)) (base : Nat) (w : World) (p : Gh) : Prop := RO base w (fun _ => True) [] p (.sls e1 e2 f)
theorem PartP.ro {e1 e2 : TypeId} {f : List (List Int)} {base : Nat} {w : World} {p : Gh} (h : PartP e1 e2 f base w p) {ok : Nat → Prop} {gs : List Gh} : RO base w ok gs p (.sls e1 e2 f) := AO.plain.ro (o := .sls e1 e2 f) trivial h
theorem PartP.of {e1 e2 : TypeId} {f : List (List Int)} {base : Nat} {w : World} {p : Gh} {ok : Nat → Prop} {gs : List Gh} (h : RO base w ok gs p (.sls e1 e2 f)) : PartP e1 e2 f base w p := AO.plain.ro (o := .sls e1 e2 f) trivial h
theorem PartP.up {e1 e2 : TypeId} {f : List (List Int)} {base : Nat} {w w' : World} {p : Gh} (hb : ∀ b, b ∈ p.bl → w'.heap[b]? = w.heap[b]?) (h : PartP e1 e2 f base w p) : PartP e1 e2 f base w' p :=
  PartP.of (RO.mono (ok := fun _ => False) (ok' := fun _ => False) (gs := []) (gs' := []) (fun b hb _ => hb.elim) (fun h g e => e) (fun _ => hb) h.ro)
theorem owns_lower {w : World} {base base' : Nat} {e : TypeId} {v : Value} {n : Nat} {vs : List Value} (hl : base' ≤ base) (h : w.ownsRow base e 1 v n vs) : w.ownsRow base' e 1 v n vs := by
  refine ⟨h.1, h.2.imp id ?_⟩
  rintro ⟨g, cap, cur, e1, e2, r⟩
  exact ⟨g, cap, cur, e1, Nat.le_trans hl e2, r⟩
theorem PartP.lower {e1 e2 : TypeId} {f : List (List Int)} {base base' : Nat} {w : World} {p : Gh} (hl : base' ≤ base) (h : PartP e1 e2 f base w p) : PartP e1 e2 f base' w p := by
  obtain ⟨vs, bs, mb, a1, a2, a3, a4, a5, r⟩ := h
  exact ⟨vs, bs, mb, owns_lower hl a1, a2, a3, a4, fun i u hu => ⟨owns_lower hl (a5 i u hu).1, (a5 i u hu).2⟩, r⟩
theorem PartP.nodup {e1 e2 : TypeId} {f : List (List Int)} {base : Nat} {w : World} {p : Gh} (h : PartP e1 e2 f base w p) : p.bl.Nodup := by
  obtain ⟨vs, bs, mb, _, _, _, _, _, _, _, h8⟩ := h; exact h8
theorem PartP.one {e1 e2 : TypeId} {f : List (List Int)} {base : Nat} {w : World} {p : Gh} (h : PartP e1 e2 f base w p) : p.v.oneCell' = true ∧ p.v.cells = #[p.v] := by
  obtain ⟨vs, bs, mb, h1, _⟩ := h
  obtain ⟨a, cap, e1⟩ := ownsRow_slice h1
  rw [e1]; exact ⟨rfl, rfl⟩
theorem PartP.reads {e1 e2 : TypeId} {f : List (List Int)} {base : Nat} {w : World} {p : Gh} (h : PartP e1 e2 f base w p) {ok : Nat → Prop} (hb : ∀ b, b ∈ p.bl → ok b) : IntssAt w ok p.v f := by
  obtain ⟨vs, bs, mb, a1, a2, a3, a4, a5, a6, a7, a8⟩ := h
  refine ⟨vs, RowAt.of_owns' a1 fun b hbb => hb b ?_, a2, fun i u hu => ⟨RowAt.of_owns' (a5 i u hu).1 fun b hbb => hb b ?_, (a5 i u hu).2.1⟩⟩
  · rw [a7]
    rcases a6 with ⟨h6, _⟩ | ⟨h6, h6'⟩
    · rw [h6] at hbb; cases hbb
    · rw [h6] at hbb; cases hbb; simp [h6']
  · have hi := (List.getElem?_eq_some_iff.1 hu).1
    rw [a7]
    refine List.mem_append.2 (.inr (List.mem_flatten.2 ⟨bs.getD i [], ?_, by rw [← (a5 i u hu).2.2, hbb]; simp⟩))
    rw [List.getD_eq_getElem?_getD, List.getElem?_eq_getElem (by omega)]
    simp

def PlsP (e e1 e2 : TypeId) (F : Pls) (base : Nat) (w : World) (g : Gh) : Prop :=
  ∃ (ps : List Gh) (mb : List Nat), w.ownsRow base e 1 g.v ps.length (ps.map (·.v)) ∧ ps.length = F.length ∧ g.rows = ps.map (·.v) ∧ (∀ (i : Nat) p, ps[i]? = some p → PartP e1 e2 (F.getD i []) base w p) ∧
    ((g.v.ownBlock = none ∧ mb = []) ∨ (g.v.ownBlock = some g.b ∧ mb = [g.b])) ∧ g.bl = mb ++ (ps.map (·.bl)).flatten ∧ g.bl.Nodup
theorem part_sub {ps : List Gh} {mb l : List Nat} (hl : l = mb ++ (ps.map (·.bl)).flatten) {i : Nat} {p : Gh} (hp : ps[i]? = some p) {b : Nat} (hb : b ∈ p.bl) : b ∈ l := by
  rw [hl]
  exact List.mem_append.2 (.inr (List.mem_flatten.2 ⟨p.bl, List.mem_map.2 ⟨p, List.mem_of_getElem? hp, rfl⟩, hb⟩))
theorem main_sub {g : Gh} {mb l : List Nat} {x : List Nat} (hl : l = mb ++ x) (h : (g.v.ownBlock = none ∧ mb = []) ∨ (g.v.ownBlock = some g.b ∧ mb = [g.b])) {b : Nat} (hb : g.v.ownBlock = some b) : b ∈ l := by
  rw [hl]
  rcases h with ⟨h6, _⟩ | ⟨h6, h6'⟩
  · rw [h6] at hb; cases hb
  · rw [h6] at hb; cases hb; simp [h6']
def plsOb (e e1 e2 : TypeId) (F : Pls) : Ob where
  p := PlsP e e1 e2 F
  up {base w w' g} hb h := by
    obtain ⟨ps, mb, a1, a2, a3, a4, a5, a6, a7⟩ := h
    exact ⟨ps, mb, ownsRow_of_block a1 fun c hc => hb c (main_sub a6 a5 hc), a2, a3, fun i p hp => (a4 i p hp).up fun b hbb => hb b (part_sub a6 hp hbb), a5, a6, a7⟩
  lower hl h := by
    obtain ⟨ps, mb, a1, a2, a3, a4, a5, a6, a7⟩ := h
    exact ⟨ps, mb, owns_lower hl a1, a2, a3, fun i p hp => (a4 i p hp).lower hl, a5, a6, a7⟩
  one h := by
    obtain ⟨ps, mb, a1, _⟩ := h
    obtain ⟨a, cap, e1⟩ := ownsRow_slice a1
    rw [e1]; exact ⟨rfl, rfl⟩

theorem run_store1 {P : Program} {t : TypeId} {zs : List Value} [ht : TStruct P t 1 zs] {a : Addr} {u s : Value} {w : World} (hc : w.cell? a = some u) (hf : w.frozen? a = false) (h1 : s.oneCell' = true) :
    (Instr.storeAt t (.pointer (some a)) (.agg #[s])).run P w = .ok () (w.setCell a s) := by
  obtain ⟨ii, hi, hs, _⟩ := ht.info
  have hst := run_store P w a s .plain h1
  simp only [hc, hf] at hst
  simp only [Instr.storeAt, Instr.sureAddr, storeVar, sizeOf, typeInfo, hi, hs, Value.cells, storeCells, Sem.run_bind, Sem.run_pure, Result.andThen_ok, run_program, Addr.add_zero', Sem.run_ite]
  simp [hst]

section
variable {P : Program} {wl : Bool} {env : Env} {os : List AO} {d : Option Tmp} {ty : TypeId} {pos : String} {af : Array Edge} {g : Option (Nat × Bool)}

theorem reads_pls {m : Nat} {e e1 e2 : TypeId} {F : Pls} (hm : os[m]? = some (.ob (plsOb e e1 e2 F))) : Reads os [m] (.own m) (polsRo F) := by
  intro base w gs ok hro hok kp v hv
  cases hv with
  | @own _ gm hg =>
    obtain ⟨ps, mb, a1, a2, a3, a4, a5, a6, a7⟩ := hro _ _ _ hg hm
    have hb := hok m (by simp) _ _ hg hm (by simp)
    refine ⟨ps.map (·.v), by simpa using RowAt.of_owns' a1 fun b hbb => hb b (main_sub a6 a5 hbb), by simpa using a2, fun i u hu => ?_⟩
    rw [List.getElem?_map] at hu
    cases hp : ps[i]? with
    | none => rw [hp] at hu; cases hu
    | some p =>
      rw [hp] at hu
      cases hu
      exact (a4 i p hp).reads fun b hbb => hb b (part_sub a6 hp hbb)

theorem l_make_pls {t e : TypeId} {bytes : Nat} [ht : TSlice P t e] [he : TElem P e (.agg #[.slice none 0 0]) bytes] (e1 e2 : TypeId) {x y : Operand} {n : Int} (hx : AV.ev env x = .i n) (hy : AV.ev env y = .i n) (h0 : 0 ≤ n) (hb : (bytes : Int) * n ≤ 281474976710656) (hm : n ≤ 9223372036854775807) :
    LOp P ⟨d, .makeSlice t x y, ty, pos, af, g⟩ env os (.own os.length) env (os ++ [.ob (plsOb e e1 e2 (List.replicate n.toNat []))]) := by
  refine l_new fun base w gs tm hr => ?_
  obtain ⟨ii, hi, hs, hz, hby⟩ := he.info
  obtain ⟨m, rfl⟩ := Int.eq_ofNat_of_zero_le h0
  have hb' : ii.bytes * m ≤ 281474976710656 := by
    have : ((bytes * m : Nat) : Int) ≤ 281474976710656 := by rw [Int.natCast_mul]; exact hb
    rw [hby]; omega
  obtain ⟨w', h1, h2, h3⟩ := run_make_full (P := P) w base t e ii _ 1 ht.und hi hz hs .i64 .i64 m hb' (by simp [maxLen]; omega) hr.hb
  have hbel : Below w.heap.size w w' := (Below.refl _ _).grown h3 (Nat.le_refl _) (fun k hk => by cases hk)
  have hlt := h2.lt w.heap.size rfl
  rw [show (Value.agg #[.slice none 0 0]).cells = #[.slice none 0 0] from by simp [Value.cells], toList_madeCells_one] at h2
  let p0 : Gh := ⟨.slice none 0 0, 0, [], []⟩
  have em : (List.replicate m p0).map (·.v) = List.replicate m (.slice none 0 0) := by simp [p0]
  have ebl : ((List.replicate m p0).map (·.bl)).flatten = [] := by simp [p0]
  refine ⟨w', ⟨.slice (some ⟨w.heap.size, 0, none⟩) m m, w.heap.size, [w.heap.size], List.replicate m (.slice none 0 0)⟩, by simp only [execOp, hr.evv hx, hr.evv hy, Sem.run_bind, h1, Result.andThen_ok, Sem.run_pure], hbel,
    fun b hb => by simp at hb; omega, fun ok gs' => ⟨List.replicate m p0, [w.heap.size], by rw [em]; simpa using h2, by simp, em.symm, fun i p hp => ?_, .inr ⟨rfl, rfl⟩, by rw [ebl]; rfl, by simp⟩⟩
  have hp' : p = p0 := List.eq_of_mem_replicate (List.mem_of_getElem? hp)
  have e0 : (List.replicate m ([] : List (List Int))).getD i [] = [] := by simp [List.getD_eq_getElem?_getD, List.getElem?_replicate]; split <;> rfl
  subst hp'
  rw [Int.toNat_natCast, e0]
  exact ⟨[], [], [], World.ownsRow_nil _ _ _ _, rfl, rfl, rfl, fun i u hu => by simp at hu, .inl ⟨rfl, rfl⟩, rfl, by simp [p0]⟩

theorem q_idxpl {t e : TypeId} {zs : List Value} [ht : TSlice P t e] [he : TStruct P e 1 zs] {x y : Operand} {h : Nat} {e' e1 e2 : TypeId} {F : Pls} {i : Int} (hx : AV.ev env x = .own h) (hs : os[h]? = some (.ob (plsOb e' e1 e2 F))) (hy : AV.ev env y = .i i) (h0 : 0 ≤ i) (h1 : i < F.length) :
    QOp P wl ⟨d, .indexAddr t x y, ty, pos, af, g⟩ env os (.optr h i.toNat) :=
  .of_run fun _ w gs tm hr => by
    have hh := hr.ev x
    rw [hx] at hh
    generalize hv : Act.eval ⟨tm, []⟩ x = v at hh
    cases hh with
    | @own _ gh hg =>
      obtain ⟨ps, mb, a1, a2, a3, a4, a5, a6, a7⟩ := hr.ho _ _ _ hg hs
      obtain ⟨b, cap, ev, eo, _⟩ := own_slice a1 (i := i.toNat) (by rw [List.length_map]; omega)
      have eb : gh.b = b := by
        rcases a5 with ⟨c1, _⟩ | ⟨c1, c2⟩
        · rw [c1] at eo; cases eo
        · rw [c1] at eo; exact Option.some.inj eo
      obtain ⟨ie, hi, hs1, _⟩ := he.info
      have hrun := fun w' => run_idx (P := P) ht.und hi hs1 ⟨b, 0, none⟩ ps.length cap i h0 (by omega) w'
      refine ⟨_, .optr hg, fun w' _ => ?_⟩
      simp only [execOp, hv, ev, hr.evv hy, Sem.run_bind, hrun, add_none, Nat.zero_add, Result.andThen_ok, Sem.run_pure, eb]
theorem q_lenpl {t e : TypeId} [ht : TSlice P t e] {x : Operand} {h : Nat} {e' e1 e2 : TypeId} {F : Pls} (hx : AV.ev env x = .own h) (hs : os[h]? = some (.ob (plsOb e' e1 e2 F))) :
    QOp P wl ⟨d, .call { callee := .builtin .len, args := #[x], argTypes := #[t] }, ty, pos, af, g⟩ env os (.i F.length) :=
  .of_run fun _ w gs tm hr => by
    have hh := hr.ev x
    rw [hx] at hh
    generalize hv : Act.eval ⟨tm, []⟩ x = v at hh
    cases hh with
    | @own _ gh hg =>
      obtain ⟨ps, mb, a1, a2, _⟩ := hr.ho _ _ _ hg hs
      obtain ⟨a, cap, ev⟩ := ownsRow_slice a1
      refine ⟨_, .val _, fun w' _ => ?_⟩
      simp [execOp, resolve, invoke, builtin, hv, ev, Builtin.len_, run_underlying ht.und, goInt, a2]
theorem q_fapl {t : TypeId} [ht : TField P t 0 0] {x : Operand} {h i : Nat} {e' e1 e2 : TypeId} {F : Pls} (hx : AV.ev env x = .optr h i) (hs : os[h]? = some (.ob (plsOb e' e1 e2 F))) :
    QOp P wl ⟨d, .fieldAddr t x 0, ty, pos, af, g⟩ env os (.optr h i) :=
  .of_run fun _ w gs tm hr => by
    have hh := hr.ev x
    rw [hx] at hh
    generalize hv : Act.eval ⟨tm, []⟩ x = v at hh
    cases hh with
    | @optr _ _ gh hg =>
      obtain ⟨fs, fd, ii, h1, h2, h3, h4, h5, _⟩ := ht.fld
      refine ⟨_, .optr hg, fun w' _ => ?_⟩
      simp [execOp, hv, Instr.fieldAt, run_underlying h1, h2, Instr.sureAddr, fieldPlace, sizeOf, typeInfo, h4, h5, h3, add_none]
theorem q_ldpl {t : TypeId} [ht : TCell P t] {x : Operand} {h i : Nat} {e' e1 e2 : TypeId} {F : Pls} (hx : AV.ev env x = .optr h i) (hs : os[h]? = some (.ob (plsOb e' e1 e2 F))) (hi : i < F.length) :
    QOp P false ⟨d, .load t x, ty, pos, af, g⟩ env os (.orow h i) :=
  .of_runb fun base w gs tm hr => by
    have hh := hr.ev x
    rw [hx] at hh
    generalize hv : Act.eval ⟨tm, []⟩ x = v at hh
    cases hh with
    | @optr _ _ gh hg =>
      obtain ⟨ps, mb, a1, a2, a3, a4, a5, a6, a7⟩ := hr.ho _ _ _ hg hs
      have hip : i < ps.length := by omega
      obtain ⟨b, cap, ev, eo, e3, _⟩ := own_slice a1 (i := i) (by rw [List.length_map]; exact hip)
      have eb : gh.b = b := by
        rcases a5 with ⟨c1, _⟩ | ⟨c1, c2⟩
        · rw [c1] at eo; cases eo
        · rw [c1] at eo; exact Option.some.inj eo
      have hcell : w.cell? ⟨gh.b, i, none⟩ = some ps[i].v := by rw [eb, e3]; simp [hip]
      refine ⟨ps[i].v, .orow hg (by rw [a3]; simp [hip]), fun w' hw' => ?_⟩
      have hcell' := below_cell hw' hcell
      simp only [execOp, hv, Sem.run_bind, run_load_cell hcell', Result.andThen_ok, Sem.run_pure]

theorem getD_put {α : Type} (l : List α) (i j : Nat) (x d : α) (hi : i < l.length) : (l.set i x).getD j d = if j = i then x else l.getD j d := by
  simp only [List.getD_eq_getElem?_getD, List.getElem?_set]
  by_cases e : i = j
  · subst e; simp [hi]
  · have e' : ¬ j = i := fun h => e h.symm
    simp [e, e']
theorem pt_bls {ps : List Gh} {i : Nat} (gk : Gh) : (ps.set i gk).map (·.bl) = (ps.map (·.bl)).set i gk.bl := by rw [List.map_set]
set_option maxHeartbeats 1000000 in
/-- A struct goes into a cell: its slice of rows, an own object, goes with it. -/
theorem l_store_pl {t : TypeId} {zs : List Value} [ht : TStruct P t 1 zs] {x y : Operand} {h i k : Nat} {e e1 e2 e3 e4 : TypeId} {F : Pls} {f : List (List Int)} (hx : AV.ev env x = .optr h i) (hs : os[h]? = some (.ob (plsOb e e1 e2 F))) (hi : i < F.length) (hy : AV.ev env y = .agg [.own k])
    (hk : os[k]? = some (.sls e3 e4 f)) (he : e3 = e1 ∧ e4 = e2) (hhk : (h == k) = false) :
    LOp P ⟨d, .store t x y, ty, pos, af, g⟩ env os .any (env.mp (AV.noRow h)) (((os.map (AO.via (AV.noRow h) h)).set h (.ob (plsOb e e1 e2 (F.set i f)))).set k .dead) := by
  obtain ⟨rfl, rfl⟩ := he
  have hne : h ≠ k := by simpa using hhk
  intro base w gs tm hr
  have hxv := hr.ev x
  have hyv := hr.ev y
  rw [hx] at hxv
  rw [hy] at hyv
  generalize hv : Act.eval ⟨tm, []⟩ x = v at hxv
  generalize hu : Act.eval ⟨tm, []⟩ y = u at hyv
  obtain ⟨s, rfl, hsv, hone⟩ := one_of hyv
  cases hxv with
  | @optr _ _ gh hg =>
  cases hsv with
  | @own _ gk hgk =>
    obtain ⟨ps, mb, a1, a2, a3, a4, a5, a6, a7⟩ := hr.ho _ _ _ hg hs
    have hpk : PartP e3 e4 f base w gk := PartP.of (hr.ho _ _ _ hgk hk)
    have hip : i < ps.length := by omega
    obtain ⟨b, cap, e1', eo, e3', e4'⟩ := own_slice a1 (i := i) (by rw [List.length_map]; exact hip)
    have emb : mb = [gh.b] ∧ gh.v.ownBlock = some gh.b := by
      rcases a5 with ⟨c1, _⟩ | ⟨c1, c2⟩
      · rw [c1] at eo; cases eo
      · exact ⟨c2, c1⟩
    have eb : gh.b = b := by rw [emb.2] at eo; exact Option.some.inj eo
    have hcell : w.cell? ⟨gh.b, i, none⟩ = some ps[i].v := by rw [eb, e3']; simp [hip]
    have a1' := a1
    rw [e1'] at a1'
    have hst := a1'.stored i gk.v
    have hother : ∀ c, c < w.heap.size → c ∉ gh.bl → (w.setCell ⟨b, i, none⟩ gk.v).heap[c]? = w.heap[c]? := fun c hc hcb => hst.2.block c hc (fun e' => hcb (by rw [a6, emb.1, eb]; simp [Option.some.inj e']))
    have hgb : gh.b ∈ gh.bl := by rw [a6, emb.1]; simp
    have hdis : ∀ c, c ∈ gk.bl → c ∉ gh.bl := hr.hd k h gk gh _ _ (fun e => hne e.symm) hgk hg hk hs (by simp) (by simp)
    have hap : ∀ c, c ≠ gh.b → (w.setCell ⟨b, i, none⟩ gk.v).heap[c]? = w.heap[c]? := fun c hc => heap_setCell_other w ⟨b, i, none⟩ c gk.v (fun e' => hc (by rw [eb]; exact e'))
    have hib : i < (ps.map (·.bl)).length := by rw [List.length_map]; exact hip
    let g' : Gh := ⟨gh.v, gh.b, mb ++ ((ps.set i gk).map (·.bl)).flatten, (ps.set i gk).map (·.v)⟩
    have hhg : h < gs.length := (List.getElem?_eq_some_iff.1 hg).1
    have sv : SameV h gs (gs.set h g') := by
      refine ⟨fun j z hj hz => ?_, fun z hz => ⟨g', by simp [hhg], ?_⟩⟩
      · rw [List.getElem?_set, if_neg (fun e => hj e.symm)]; exact hz
      · rw [hg] at hz; cases hz; exact ⟨rfl, rfl⟩
    refine ⟨undef, w.setCell ⟨b, i, none⟩ gk.v, gs.set h g', .inr ⟨?_, rfl⟩, hr.absorb hg hs trivial hgk hk trivial hne g' _ (AV.noRow h) rfl hother hst.2.size ?_ (fun kp hv => hv.noRow kp sv) ?_, .any _, ?_⟩
    · have := run_store1 (P := P) (t := t) (a := ⟨gh.b, i, none⟩) hcell (by rw [eb]; exact e4') (s := gk.v) hone
      rw [eb] at this hv
      simp only [execOp, hv, hu, Sem.run_bind, this, Result.andThen_ok, Sem.run_pure]
    · intro c hc
      have hc' : c ∈ mb ∨ c ∈ ((ps.map (·.bl)).set i gk.bl).flatten := by rw [← pt_bls gk]; exact List.mem_append.1 hc
      have key : c ∈ gh.bl ∨ c ∈ gk.bl := by
        rcases hc' with hc' | hc'
        · left; rw [a6]; exact List.mem_append.2 (.inl hc')
        · rw [flatten_set _ hib] at hc'
          rcases List.mem_append.1 hc' with hc' | hc'
          · left; rw [a6, flatten_at hib]; simp [hc']
          · rcases List.mem_append.1 hc' with hc' | hc'
            · right; exact hc'
            · left; rw [a6, flatten_at hib]; simp [hc']
      refine ⟨?_, ?_⟩
      · rcases key with key | key
        · exact .inl key
        · exact .inr (.inl key)
      · rcases key with key | key
        · have := (hr.hn _ _ _ hg hs (by simp) c key).2
          exact Nat.lt_of_lt_of_le this hst.2.size
        · have := (hr.hn _ _ _ hgk hk (by simp) c key).2
          exact Nat.lt_of_lt_of_le this hst.2.size
    · intro kp
      refine ⟨ps.set i gk, mb, ?_, by simp [a2], rfl, fun j p hj => ?_, .inr ⟨emb.2, emb.1⟩, rfl, ?_⟩
      · have hst1 := hst.1
        rw [List.length_set, List.map_set, e1']
        simpa using hst1
      · rw [List.getElem?_set] at hj
        rw [getD_put _ _ _ _ _ hi]
        split at hj
        · subst_vars
          cases hj
          simp only [if_true]
          exact hpk.up fun c hc => hap c fun e => hdis c hc (by rw [e]; exact hgb)
        · rename_i hij
          have hij' : ¬ j = i := fun e => hij e.symm
          simp only [hij', if_false]
          refine (a4 j p hj).up fun c hc => hap c fun e => ?_
          have hcm : c ∈ (ps.map (·.bl)).flatten := List.mem_flatten.2 ⟨p.bl, List.mem_map.2 ⟨p, List.mem_of_getElem? hj, rfl⟩, hc⟩
          rw [a6, emb.1] at a7
          have := (List.nodup_cons.1 a7).1
          rw [← e] at this
          exact this hcm
      · show (mb ++ ((ps.set i gk).map (·.bl)).flatten).Nodup
        rw [pt_bls gk, flatten_set _ hib]
        rw [a6, flatten_at hib] at a7
        refine nodup_swap a7 hpk.nodup fun c hc => ?_
        have := hdis c hc
        rwa [a6, flatten_at hib] at this
    · have hbb : base ≤ b := by rw [← eb]; exact (hr.hn _ _ _ hg hs (by simp) gh.b hgb).1
      exact (Below.refl _ _).setCell (p := ⟨b, i, none⟩) hbb _
end
section
variable {P : Program} {env : Env} {os : List AO} {d : Tmp} {ty : TypeId} {pos : String} {af : Array Edge} {g : Option (Nat × Bool)} {l rest : List Oper} {K : APost} {q : Md}
set_option maxHeartbeats 1000000 in
/-- A part is handed to a function that writes to it. -/
theorem w_callpl {f : FuncId} {ats : Array TypeId} {v0 : Value} {h i : Nat} {e e1 e2 : TypeId} {F : Pls} {Q : Value → List AO → Prop} {x y : Operand} (hx : evo env x = some (.orow h i)) (hs : os[h]? = some (.ob (plsOb e e1 e2 F))) (hy : evo env y = some (.val v0))
    (hc : AFnU P f [.own 0, .val v0] [.sls e1 e2 (F.getD i [])] Q)
    (hQ : ∀ v os', Q v os' → ∃ f', os' = [.sls e1 e2 f'])
    (h' : ∀ v f', Q v [.sls e1 e2 f'] → AOps P .seq l rest K (env.up d (.val v)) (os.set h (.ob (plsOb e e1 e2 (F.set i f'))))) :
    AOps P .seq l (⟨some d, .call { callee := .value (.func f), args := #[x, y], argTypes := ats }, ty, pos, af, none⟩ :: rest) K env os := by
  refine AOps.ca (Q := fun r en o => ∃ v f', Q v [.sls e1 e2 f'] ∧ r = .val v ∧ en = env ∧ o = os.set h (.ob (plsOb e e1 e2 (F.set i f')))) ?_ fun r en o ⟨v, f', h0, h1, h2, h3⟩ => by subst h1; subst h2; subst h3; exact h' v f' h0
  intro base w gs tm hr
  have hev := hr.ev x
  rw [ev_of hx] at hev
  generalize hv : Act.eval ⟨tm, []⟩ x = u at hev
  cases hev with
  | @orow _ _ gh _ hg hrow =>
    obtain ⟨ps, mb, a1, a2, a3, a4, a5, a6, a7⟩ := hr.ho _ _ _ hg hs
    rw [a3, List.getElem?_map] at hrow
    cases hp : ps[i]? with
    | none => rw [hp] at hrow; cases hrow
    | some gr =>
    rw [hp] at hrow
    have hrow : gr.v = u := by simpa using hrow
    subst hrow
    have hpr := a4 i gr hp
    have hip : i < ps.length := (List.getElem?_eq_some_iff.1 hp).1
    have sub : ∀ b, b ∈ gr.bl → b ∈ gh.bl := fun b hb => part_sub a6 hp hb
    have one : ∀ {k : Nat} {g : Gh}, [gr][k]? = some g → k = 0 ∧ g = gr := by
      intro k g hk
      have := (List.getElem?_eq_some_iff.1 hk).1
      simp at this
      subst this
      simp at hk
      exact ⟨rfl, hk.symm⟩
    have hO : Objs base w [gr] [.sls e1 e2 (F.getD i [])] := by
      refine ⟨rfl, fun o ho => by simp at ho; subst ho; trivial, ?_, ?_, ?_⟩
      · intro k g o hk ho
        obtain ⟨rfl, rfl⟩ := one hk
        simp at ho
        subst ho
        exact hpr.ro
      · intro k m g g' hkm hk hm
        obtain ⟨rfl, _⟩ := one hk
        obtain ⟨rfl, _⟩ := one hm
        exact absurd rfl hkm
      · intro k g hk b hb
        obtain ⟨_, rfl⟩ := one hk
        exact hr.hn _ _ _ hg hs (by simp) b (sub b hb)
    have hlt : h < os.length := (List.getElem?_eq_some_iff.1 hs).1
    have hgl : h < gs.length := by rw [hr.hl]; exact hlt
    refine ⟨f, _, run_call hc.1 [x, y] ats _ rfl w, (hc.2 base w [gr] _ hr.hb hO (by simp) fun k => ?_).mono ?_⟩
    · match k with
      | 0 =>
        have : RV w (okOf [gr] [.sls e1 e2 (F.getD i [])]) [gr] gr.v (.own 0) := RV.own (g := gr) (by simp)
        simpa [hv] using this
      | 1 =>
        have hyv := hr.evv (ev_of hy)
        have : RV w (okOf [gr] [.sls e1 e2 (F.getD i [])]) [gr] (Act.eval ⟨tm, []⟩ y) (.val v0) := by rw [hyv]; exact .val _
        simpa using this
      | k + 2 => exact .any _
    · rintro en w' ⟨v, os', rfl, hq, hO', hbel, hw⟩
      obtain ⟨f', rfl⟩ := hQ v os' hq
      have hnew := hO'.ho 0 gr (.sls e1 e2 f') (by simp) (by simp)
      have hunch : ∀ c, c < w.heap.size → c ∉ gr.bl → w'.heap[c]? = w.heap[c]? := fun c hc hn => hw c hc fun k g hk => by
        obtain ⟨_, rfl⟩ := one hk
        exact hn
      have hother : ∀ c, c < w.heap.size → c ∉ gh.bl → w'.heap[c]? = w.heap[c]? := fun c hc hn => hunch c hc fun h1 => hn (sub c h1)
      have a7' : (mb ++ (ps.map (·.bl)).flatten).Nodup := by rw [← a6]; exact a7
      have inbl : ∀ c, c ∈ gh.bl → c < w.heap.size := fun c hc => (hr.hn _ _ _ hg hs (by simp) c hc).2
      refine ⟨v, .val v, env, _, gs, rfl, ⟨v, f', hq, rfl, rfl, rfl⟩, hr.upd hg hs trivial _ trivial hother hbel.size (fun _ => ?_), .val v, hbel⟩
      refine ⟨ps, mb, ?_, by simp [a2], a3, fun j p hj => ?_, a5, a6, a7⟩
      · refine ownsRow_of_block a1 fun c hc => ?_
        have hcm : c ∈ mb := by
          rcases a5 with ⟨c1, _⟩ | ⟨c1, c2⟩
          · rw [c1] at hc; cases hc
          · rw [c1] at hc; cases hc; rw [c2]; simp
        have hcg : c ∈ gh.bl := by rw [a6]; exact List.mem_append.2 (.inl hcm)
        refine hunch c (inbl c hcg) fun h1 => (List.nodup_append.1 a7').2.2 c hcm c (List.mem_flatten.2 ⟨gr.bl, List.mem_map.2 ⟨gr, List.mem_of_getElem? hp, rfl⟩, h1⟩) rfl
      · rw [getD_put _ _ _ _ _ (by omega)]
        split
        · subst_vars
          rw [hp] at hj
          cases hj
          exact PartP.of hnew
        · rename_i hji
          refine (a4 j p hj).up fun c hc => hunch c (inbl c (part_sub a6 hj hc)) fun h1 => ?_
          have hjl := (List.getElem?_eq_some_iff.1 hj).1
          refine flatten_disj (bs := ps.map (·.bl)) (List.nodup_append.1 a7').2.1 (i := i) (j := j) (fun e => hji e.symm) (c := c) ?_ ?_
          · rw [List.getD_eq_getElem?_getD, List.getElem?_map, hp]; exact h1
          · rw [List.getD_eq_getElem?_getD, List.getElem?_map, hj]; exact hc
theorem w_callpl1 {f : FuncId} {ats : Array TypeId} {v0 v1 : Value} {h i : Nat} {e e1 e2 : TypeId} {F : Pls} {f1 : List (List Int)} {x y : Operand} (hc : AFnU P f [.own 0, .val v0] [.sls e1 e2 (F.getD i [])] (fun v os' => v = v1 ∧ os' = [.sls e1 e2 f1])) (hx : evo env x = some (.orow h i)) (hs : os[h]? = some (.ob (plsOb e e1 e2 F))) (hy : evo env y = some (.val v0))
    (h' : AOps P .seq l rest K (env.up d (.val v1)) (os.set h (.ob (plsOb e e1 e2 (F.set i f1))))) :
    AOps P .seq l (⟨some d, .call { callee := .value (.func f), args := #[x, y], argTypes := ats }, ty, pos, af, none⟩ :: rest) K env os := by
  refine w_callpl hx hs hy hc (fun v os' ⟨_, h2⟩ => ⟨f1, h2⟩) fun v f' ⟨h1, h2⟩ => ?_
  cases h1
  cases h2
  exact h'
theorem w_mkpl {t e : TypeId} {bytes : Nat} [TSlice P t e] [TElem P e (.agg #[.slice none 0 0]) bytes] (e1 e2 : TypeId) {x y : Operand} {n : Int} {m : Nat} (hx : evo env x = some (.i n)) (hy : evo env y = some (.i n)) (h0 : 0 ≤ n) (hb : (bytes : Int) * n ≤ 281474976710656) (h63 : n ≤ 9223372036854775807) (hm : os.length = m)
    (h' : AOps P .seq l rest K (env.up d (.own m)) (os ++ [.ob (plsOb e e1 e2 (List.replicate n.toNat []))])) : AOps P .seq l (⟨some d, .makeSlice t x y, ty, pos, af, none⟩ :: rest) K env os := AOps.lo (hm ▸ l_make_pls e1 e2 (ev_of hx) (ev_of hy) h0 hb h63) h'
theorem w_idxpl {t e : TypeId} {zs : List Value} [TSlice P t e] [TStruct P e 1 zs] {x y : Operand} {h : Nat} {e' e1 e2 : TypeId} {F : Pls} {i : Int} (hw : wantedA l env ⟨some d, .indexAddr t x y, ty, pos, af, g⟩ = some true) (hx : evo env x = some (.own h)) (hs : os[h]? = some (.ob (plsOb e' e1 e2 F))) (hy : evo env y = some (.i i)) (h0 : 0 ≤ i) (h1 : i < F.length)
    (h' : AOps P q l rest K (env.up d (.optr h i.toNat)) os) : AOps P q l (⟨some d, .indexAddr t x y, ty, pos, af, g⟩ :: rest) K env os := AOps.qo hw (q_idxpl (ev_of hx) hs (ev_of hy) h0 h1) h'
theorem w_lenpl {t e : TypeId} [TSlice P t e] {x : Operand} {h : Nat} {e' e1 e2 : TypeId} {F : Pls} (hw : wantedA l env ⟨some d, .call { callee := .builtin .len, args := #[x], argTypes := #[t] }, ty, pos, af, g⟩ = some true) (hx : evo env x = some (.own h)) (hs : os[h]? = some (.ob (plsOb e' e1 e2 F)))
    (h' : AOps P q l rest K (env.up d (.i F.length)) os) : AOps P q l (⟨some d, .call { callee := .builtin .len, args := #[x], argTypes := #[t] }, ty, pos, af, g⟩ :: rest) K env os := AOps.qo hw (q_lenpl (ev_of hx) hs) h'
theorem w_fapl {t : TypeId} [TField P t 0 0] {x : Operand} {h i : Nat} {e' e1 e2 : TypeId} {F : Pls} (hw : wantedA l env ⟨some d, .fieldAddr t x 0, ty, pos, af, g⟩ = some true) (hx : evo env x = some (.optr h i)) (hs : os[h]? = some (.ob (plsOb e' e1 e2 F)))
    (h' : AOps P q l rest K (env.up d (.optr h i)) os) : AOps P q l (⟨some d, .fieldAddr t x 0, ty, pos, af, g⟩ :: rest) K env os := AOps.qo hw (q_fapl (ev_of hx) hs) h'
theorem w_ldpl {t : TypeId} [TCell P t] {x : Operand} {h i : Nat} {e' e1 e2 : TypeId} {F : Pls} (hw : wantedA l env ⟨some d, .load t x, ty, pos, af, g⟩ = some true) (hq : q.wl = false) (hx : evo env x = some (.optr h i)) (hs : os[h]? = some (.ob (plsOb e' e1 e2 F))) (hi : i < F.length)
    (h' : AOps P q l rest K (env.up d (.orow h i)) os) : AOps P q l (⟨some d, .load t x, ty, pos, af, g⟩ :: rest) K env os := AOps.qo hw (by rw [hq]; exact q_ldpl (ev_of hx) hs hi) h'
theorem w_stpl {t : TypeId} {zs : List Value} [TStruct P t 1 zs] {x y : Operand} {h i k : Nat} {e e1 e2 e3 e4 : TypeId} {F : Pls} {f : List (List Int)} (hx : evo env x = some (.optr h i)) (hs : os[h]? = some (.ob (plsOb e e1 e2 F))) (hy : evo env y = some (.agg [.own k])) (hk : os[k]? = some (.sls e3 e4 f)) (he : e3 = e1 ∧ e4 = e2) (hhk : (h == k) = false)
    (hi : i < F.length) (h' : AOps P .seq l rest K (env.mp (AV.noRow h)) (((os.map (AO.via (AV.noRow h) h)).set h (.ob (plsOb e e1 e2 (F.set i f)))).set k .dead)) :
    AOps P .seq l (⟨none, .store t x y, ty, pos, af, none⟩ :: rest) K env os := AOps.so (l_store_pl (ev_of hx) hs hi (ev_of hy) hk he hhk) h'
end
end Go.Proofs.Ytifkgmbghcmdeaa
/-
  The laws' own helpers over lists of polynomials. No condition but a bound on the sizes.
-/
namespace Go.Proofs.Ytifkgmbghcmdeaa
open Go Go.RowKit
attribute [local irreducible] AWp AOps ResIs Ret1 QOp LOp COp AFnV AFn Imms LeE LeO
set_option maxHeartbeats 1000000
set_option linter.unusedSimpArgs false
set_option linter.unusedVariables false

def szPF : Pls → Int → Int
  | [], l => l
  | f :: r, l => if szSS f l < 0 then -1 else szPF r (szSS f l)
def szPs (fs : Pls) (left : Int) : Int := if left - fs.length < 0 then -1 else szPF fs (left - fs.length)
theorem szR_le : ∀ (xss : List (List Int)) (l : Int), 0 ≤ szR xss l → 0 ≤ l → szR xss l ≤ l := fun xss l h h0 => (szR_ok xss l h h0).1
theorem szSS_le {f : List (List Int)} {l : Int} (h : 0 ≤ szSS f l) (h0 : 0 ≤ l) : szSS f l ≤ l := by
  unfold szSS at h ⊢
  split
  · omega
  · rename_i h1
    rw [if_neg h1] at h
    have := szR_le f _ h (by omega)
    omega
theorem szPF_ok : ∀ (fs : Pls) (l : Int), 0 ≤ szPF fs l → 0 ≤ l → ∀ f ∈ fs, (f.length : Int) ≤ l ∧ ∀ xs ∈ f, (xs.length : Int) ≤ l
  | [], l, _, _ => by simp
  | f :: r, l, h, h0 => by
    simp only [szPF] at h
    by_cases e : szSS f l < 0
    · rw [if_pos e] at h; omega
    · rw [if_neg e] at h
      have h1 := szSS_ok (xss := f) (left := l) (by omega) h0
      have h2 := szSS_le (f := f) (l := l) (by omega) h0
      have ih := szPF_ok r _ h (by omega)
      intro g hg
      rcases List.mem_cons.1 hg with rfl | hg
      · exact h1
      · have := ih g hg
        exact ⟨by omega, fun xs hx => by have := this.2 xs hx; omega⟩
theorem szPs_ok {fs : Pls} {left : Int} (h : 0 ≤ szPs fs left) (h0 : 0 ≤ left) : (fs.length : Int) ≤ left ∧ ∀ f ∈ fs, (f.length : Int) ≤ left ∧ ∀ xs ∈ f, (xs.length : Int) ≤ left := by
  unfold szPs at h
  split at h
  · omega
  · have := szPF_ok fs _ h (by omega)
    exact ⟨by omega, fun f hf => ⟨by have := (this f hf).1; omega, fun xs hx => by have := (this f hf).2 xs hx; omega⟩⟩
theorem drop_pl {fs : Pls} {i : Nat} (h : i < fs.length) : fs.drop i = fs.getD i [] :: fs.drop (i + 1) := by
  rw [List.drop_eq_getElem_cons h]; simp [List.getD_eq_getElem?_getD, h]

theorem szPolyS_c (fs : Pls) (hn : fs.length ≤ maxLen) (left : Int) (h0 : 0 ≤ left) (h1 : left ≤ 1048576) : AFnV Try.prog 18 [.ro (polsRo fs), .i left] (.int .i64 (szPs fs left)) := by
  have hm : fs.length ≤ 9223372036854775807 := Nat.le_trans hn (by decide)
  (refine AFnV.start Try.func18 Try.ntmps18 rfl (by kernel_rfl) fun hk => ?_; simp only [Env.start, enumF, List.length_cons, List.length_nil, Nat.reduceAdd, Nat.reduceSub, List.cons_append, List.nil_append])
  repeat' (first | (apply AOps.nil; try simp only [List.nil_append, List.cons_append, List.set_cons_zero, List.set_cons_succ, List.length_cons, List.length_nil, Nat.reduceAdd, AV.sh, AV.sh1, AV.sh0, AO.sh, List.map_cons, List.map_nil, Nat.zero_add, Nat.add_zero, setAll]) | (apply w_move; exact rfl; exact rfl) | (apply w_assign; exact rfl; exact rfl) | apply AWp.seq | apply AWp.region | ((apply AWp.condP; exact rfl) <;> intro h) | apply AWp.block | apply AWp.ret | apply AWp.skip | ((first | apply w_lss | apply w_sub); iterate 3 exact rfl) | ((apply w_lenps); iterate 2 exact rfl) | (apply inI_of <;> omega))
  · exact .int Try.results18 rfl (by simp [szPs, h])
  refine AWp.loop (ι := Nat × Int) (fun s => ⟨27, [(0, .ro (polsRo fs)), (1, .i s.2), (5, .i s.1)]⟩) (fun _ => []) (fun s => s.1 ≤ fs.length ∧ 0 ≤ s.2 ∧ s.2 ≤ 1048576 ∧ szPF (fs.drop s.1) s.2 = szPs fs left) (fun s => fs.length - s.1) (0, left - fs.length) ⟨by simp, by simp only; omega, by simp only; omega, by simp [szPs, h]⟩ ⟨lee rfl (by (repeat (first | exact le_nil | refine le_eq rfl rfl ?_))), by (repeat (exact lo_nil)), rfl, rfl⟩ ?_
  rintro ⟨i, l⟩ ⟨a0, a1, a2, a3⟩
  simp only at a0 a1 a2 a3
  have hle : 0 ≤ szSS (fs.getD i []) l → szSS (fs.getD i []) l ≤ l := fun h => szSS_le h a1
  have hcs := szSS_cases (fs.getD i []) l
  repeat' (first | (apply AOps.nil; try simp only [List.nil_append, List.cons_append, List.set_cons_zero, List.set_cons_succ, List.length_cons, List.length_nil, Nat.reduceAdd, AV.sh, AV.sh1, AV.sh0, AO.sh, List.map_cons, List.map_nil, Nat.zero_add, Nat.add_zero, setAll]) | (apply w_move; exact rfl; exact rfl) | (apply w_assign; exact rfl; exact rfl) | apply AWp.seq | apply AWp.region | ((apply AWp.condP; exact rfl) <;> intro h) | apply AWp.block | apply AWp.ret | apply AWp.exit | apply AWp.skip | ((first | apply w_lss | apply w_add); iterate 3 exact rfl) | ((apply w_lenps); iterate 2 exact rfl) | (apply w_idxps; iterate 3 exact rfl) | (apply w_ldps; iterate 3 exact rfl) | (apply w_call (szPoly_c (fs.getD i []) l (show -1 ≤ l by omega) a2); exact rfl; exact rfl; focus ((repeat (first | exact im_nil | refine im_cons rfl (.val _) ?_ | refine im_cons rfl (im_agg1 (.intss _)) ?_)); done)) | (apply inI_of <;> omega) | omega)
  · rw [drop_pl (by omega)] at a3
    exact .int Try.results18 rfl (by rw [← a3, szPF, if_pos h])
  · rw [drop_pl (by omega)] at a3
    exact ⟨(i + 1, szSS (fs.getD i []) l), ⟨by simp only; omega, by simp only; omega, by simp only; omega, by simp only; rw [← a3, szPF, if_neg h]⟩, by simp only; omega, ⟨lee rfl (by (repeat (first | exact le_nil | refine le_eq rfl rfl ?_))), by (repeat (exact lo_nil)), rfl, rfl⟩⟩
  · have e : i = fs.length := by omega
    subst e
    exact .int Try.results18 rfl (by rw [← a3]; simp [szPF])

theorem pl_mem {fs : Pls} {n : Nat} (h : n < fs.length) : fs.getD n [] ∈ fs := by simp [List.getD_eq_getElem?_getD, h]
theorem take_set_pl (fs : Pls) (i : Nat) (h : i < fs.length) : (fs.take i ++ List.replicate (fs.length - i) []).set i (fs.getD i []) = fs.take (i + 1) ++ List.replicate (fs.length - (i + 1)) [] := by
  rw [List.set_append_right _ _ (by simp; omega), List.length_take, Nat.min_eq_left (by omega), Nat.sub_self, show fs.length - i = (fs.length - (i + 1)) + 1 by omega, List.replicate_succ, List.set_cons_zero, List.take_succ_eq_append_getElem h, show fs.getD i [] = fs[i] by simp [List.getD_eq_getElem?_getD, h]]
  simp only [List.append_assoc, List.cons_append, List.nil_append]
/-- A new list of polynomials. -/
def IsPls (fs : Pls) (r : AV) (os : List AO) : Prop := r = .own 0 ∧ os = [.ob (plsOb 50 22 2 fs)]
theorem toPolyS_c (fs : Pls) (hb : fs.length ≤ 1048576) (hr : ∀ f ∈ fs, f.length ≤ 1048576 ∧ ∀ xs ∈ f, xs.length ≤ 1048576) : AFn Try.prog 20 [.ro (polsRo fs)] (IsPls fs) := by
  (refine AFn.start Try.func20 Try.ntmps20 rfl (by kernel_rfl) fun hk => ?_; simp only [Env.start, enumF, List.length_cons, List.length_nil, Nat.reduceAdd, Nat.reduceSub, List.cons_append, List.nil_append])
  repeat' (first | (apply AOps.nil; try simp only [List.nil_append, List.cons_append, List.set_cons_zero, List.set_cons_succ, List.length_cons, List.length_nil, Nat.reduceAdd, AV.sh, AV.sh1, AV.sh0, AO.sh, List.map_cons, List.map_nil, Nat.zero_add, Nat.add_zero, setAll]) | (apply w_move; exact rfl; exact rfl) | (apply w_assign; exact rfl; exact rfl) | apply AWp.seq | apply AWp.region | apply AWp.block | ((apply w_lenps); iterate 2 exact rfl) | (apply w_mkpl 22 2; exact rfl; exact rfl; rotate_left 3; exact rfl; rotate_left 1) | omega)
  refine AWp.loop (ι := Nat) (fun i => ⟨23, [(0, .ro (polsRo fs)), (3, .own 0), (4, .i i)]⟩) (fun i => [.ob (plsOb 50 22 2 (fs.take i ++ List.replicate (fs.length - i) []))]) (fun i => i ≤ fs.length) (fun i => fs.length - i) 0 (by omega) ⟨lee rfl (by (repeat (first | exact le_nil | refine le_eq rfl rfl ?_))), lo_eq (by simp) lo_nil, rfl, rfl⟩ ?_
  rintro i h0
  have e1 : (fs.take i ++ List.replicate (fs.length - i) []).length = fs.length := by simp; omega
  by_cases hi : i < fs.length
  · have hf := hr _ (pl_mem hi)
    have e2 := take_set_pl fs i hi
    have e3 : (fs.take i ++ List.replicate (fs.length - i) []).set ((i : Int)).toNat (fs.getD i []) = fs.take (i + 1) ++ List.replicate (fs.length - (i + 1)) [] := e2
    repeat' (first | (apply AOps.nil; try simp only [List.nil_append, List.cons_append, List.set_cons_zero, List.set_cons_succ, List.length_cons, List.length_nil, Nat.reduceAdd, AV.sh, AV.sh1, AV.sh0, AO.sh, List.map_cons, List.map_nil, Nat.zero_add, Nat.add_zero, setAll]) | (apply w_move; exact rfl; exact rfl) | (apply w_assign; exact rfl; exact rfl) | apply AWp.seq | apply AWp.region | ((apply AWp.condP; exact rfl) <;> intro h) | apply AWp.block | apply AWp.ret | apply AWp.exit | apply AWp.skip | (apply w_idxpl; iterate 4 exact rfl) | (apply w_stpl; exact rfl; exact rfl; exact rfl; exact rfl; exact ⟨rfl, rfl⟩; exact rfl; rotate_left 1; simp only [Env.mp, List.map_cons, List.map_nil, List.set_cons_zero, List.set_cons_succ, AV.kill, AV.kill1, AO.kill, AV.noRow, AV.noRow1, AO.via, reduceIte, Nat.reduceEqDiff, Nat.reduceLT, Env.up, Nat.zero_ne_one, Nat.one_ne_zero, Nat.reduceAdd, List.cons_append, List.nil_append]; rotate_left 1) | ((first | apply w_lss | apply w_add); iterate 3 exact rfl) | ((apply w_lenps); iterate 2 exact rfl) | (apply w_idxps; iterate 3 exact rfl) | (apply w_ldps; iterate 3 exact rfl) | (apply w_callm (toPoly_c (fs.getD i []) hf.1 hf.2); (focus ((repeat (first | exact im_nil | refine im_cons rfl (im_agg1 (.intss _)) ?_)); done)); rintro r os0 ⟨rfl, rfl⟩; try simp only [List.nil_append, List.cons_append, List.set_cons_zero, List.set_cons_succ, List.length_cons, List.length_nil, Nat.reduceAdd, AV.sh, AV.sh1, AV.sh0, AO.sh, List.map_cons, List.map_nil, Nat.zero_add, Nat.add_zero, setAll]) | omega | (apply inI_of <;> omega))
    exact ⟨i + 1, by omega, by omega, ⟨lee rfl (by (repeat (first | exact le_nil | refine le_eq rfl rfl ?_))), lo_eq (by rw [← e2]; rfl) lo_nil, rfl, rfl⟩⟩
  · repeat' (first | (apply AOps.nil; try simp only [List.nil_append, List.cons_append, List.set_cons_zero, List.set_cons_succ, List.length_cons, List.length_nil, Nat.reduceAdd, AV.sh, AV.sh1, AV.sh0, AO.sh, List.map_cons, List.map_nil, Nat.zero_add, Nat.add_zero, setAll]) | (apply w_move; exact rfl; exact rfl) | (apply w_assign; exact rfl; exact rfl) | apply AWp.seq | apply AWp.region | ((apply AWp.condP; exact rfl) <;> intro h) | apply AWp.block | apply AWp.ret | apply AWp.exit | apply AWp.skip | ((apply w_lss); iterate 3 exact rfl) | ((apply w_lenps); iterate 2 exact rfl) | (apply w_idxps; iterate 3 exact rfl) | (apply w_ldps; iterate 3 exact rfl) | omega)
    have e : i = fs.length := by omega
    subst e
    exact ⟨_, _, _, .v1 Try.results20 rfl, .ob rfl, rfl, by simp⟩
theorem eqPolyS_t (fs : Pls) (hn : fs.length ≤ 1048576) : AFnV Try.prog 22 [.ro (polsRo fs), .ro (polsRo fs)] (.bool true) := by
  (refine AFnV.start Try.func22 Try.ntmps22 rfl (by kernel_rfl) fun hk => ?_; simp only [Env.start, enumF, List.length_cons, List.length_nil, Nat.reduceAdd, Nat.reduceSub, List.cons_append, List.nil_append])
  repeat' (first | (apply AOps.nil; try simp only [List.nil_append, List.cons_append, List.set_cons_zero, List.set_cons_succ, List.length_cons, List.length_nil, Nat.reduceAdd, AV.sh, AV.sh1, AV.sh0, AO.sh, List.map_cons, List.map_nil, Nat.zero_add, Nat.add_zero, setAll]) | (apply w_move; exact rfl; exact rfl) | (apply w_assign; exact rfl; exact rfl) | apply AWp.seq | apply AWp.region | ((apply AWp.condP; exact rfl) <;> intro h) | apply AWp.block | apply AWp.ret | apply AWp.skip | ((apply w_neq); iterate 3 exact rfl) | ((apply w_lenps); iterate 2 exact rfl) | omega)
  refine AWp.loop (ι := Nat) (fun i => ⟨27, [(0, .ro (polsRo fs)), (1, .ro (polsRo fs)), (5, .i i)]⟩) (fun _ => []) (fun i => i ≤ fs.length) (fun i => fs.length - i) 0 (by omega) ⟨lee rfl (by (repeat (first | exact le_nil | refine le_eq rfl rfl ?_))), by (repeat (exact lo_nil)), rfl, rfl⟩ ?_
  rintro i h0
  by_cases hi : i < fs.length
  · repeat' (first | (apply AOps.nil; try simp only [List.nil_append, List.cons_append, List.set_cons_zero, List.set_cons_succ, List.length_cons, List.length_nil, Nat.reduceAdd, AV.sh, AV.sh1, AV.sh0, AO.sh, List.map_cons, List.map_nil, Nat.zero_add, Nat.add_zero, setAll]) | (apply w_move; exact rfl; exact rfl) | (apply w_assign; exact rfl; exact rfl) | apply AWp.seq | apply AWp.region | ((apply AWp.condP; exact rfl) <;> intro h) | (apply AWp.condF; exact rfl) | apply AWp.block | apply AWp.ret | apply AWp.exit | apply AWp.skip | (apply AWp.regionQ; kernel_rfl; kernel_rfl) | ((first | apply w_lss | apply w_add); iterate 3 exact rfl) | ((apply w_lenps); iterate 2 exact rfl) | (apply w_idxps; iterate 3 exact rfl) | (apply w_ldps; iterate 3 exact rfl) | (apply w_call (eqPoly_t (fs.getD i [])); exact rfl; exact rfl; focus ((repeat (first | exact im_nil | refine im_cons rfl (im_agg1 (.intss _)) ?_)); done)) | omega | ((apply w_not); iterate 2 exact rfl) | (apply inI_of <;> omega))
    all_goals exact ⟨i + 1, by omega, by omega, ⟨lee rfl (by (repeat (first | exact le_nil | refine le_eq rfl rfl ?_))), by (repeat (exact lo_nil)), rfl, rfl⟩⟩
  · repeat' (first | (apply AOps.nil; try simp only [List.nil_append, List.cons_append, List.set_cons_zero, List.set_cons_succ, List.length_cons, List.length_nil, Nat.reduceAdd, AV.sh, AV.sh1, AV.sh0, AO.sh, List.map_cons, List.map_nil, Nat.zero_add, Nat.add_zero, setAll]) | (apply w_move; exact rfl; exact rfl) | (apply w_assign; exact rfl; exact rfl) | apply AWp.seq | apply AWp.region | ((apply AWp.condP; exact rfl) <;> intro h) | apply AWp.block | apply AWp.ret | apply AWp.exit | apply AWp.skip | ((apply w_lss); iterate 3 exact rfl) | ((apply w_lenps); iterate 2 exact rfl) | omega)
    all_goals exact .bool Try.results22 rfl rfl
end Go.Proofs.Ytifkgmbghcmdeaa
/-
  Local counts and dimensions of a list: the reference's walks, and the law. No condition.
-/
namespace Go.Proofs.Ytifkgmbghcmdeaa
open Go Go.RowKit
attribute [local irreducible] AWp AOps ResIs Ret1 QOp LOp COp AFnV AFn Imms LeE LeO
set_option maxHeartbeats 1000000
set_option linter.unusedSimpArgs false
set_option linter.unusedVariables false

set_option maxHeartbeats 4000000 in
theorem specLocalCounts_c (fs : List (List (List Int))) (hn : fs.length ≤ 1048576) : AFn Try.prog 19 [.ro (polsRo fs)] (IsRC 2 (lcsL fs) (lcsE fs)) := by
  (refine AFn.start Try.func19 Try.ntmps19 rfl (by kernel_rfl) fun hk => ?_; simp only [Env.start, enumF, List.length_cons, List.length_nil, Nat.reduceAdd, Nat.reduceSub, List.cons_append, List.nil_append])
  repeat' (first | (apply AOps.nil; try simp only [List.nil_append, List.cons_append, List.set_cons_zero, List.set_cons_succ, List.length_cons, List.length_nil, Nat.reduceAdd, AV.sh, AV.sh1, AV.sh0, AO.sh, List.map_cons, List.map_nil, Nat.zero_add, Nat.add_zero, setAll]) | (apply w_assign; exact rfl; exact rfl) | apply AWp.seq | apply AWp.region | apply AWp.block)
  refine AWp.loop (ι := Nat) (fun n => ⟨46, [(0, .ro (polsRo fs)), (4, .i n)]⟩) (fun n => []) (fun n => n ≤ fs.length ∧ ∀ j, j < n → isPo (fs.getD j []) = true) (fun n => fs.length - n) 0 ⟨by omega, fun j hj => by omega⟩ ⟨lee rfl (by (repeat (first | exact le_nil | refine le_eq rfl rfl ?_))), by (repeat (exact lo_nil)), rfl, rfl⟩ ?_
  rintro n ⟨h0, h4⟩
  by_cases hn1 : n < fs.length
  · have hq := l17Is_c (fs.getD n [])
    cases hp : isPo (fs.getD n []) with
    | false =>
      rw [hp] at hq
      have e : lcsE fs = 1 ∧ lcsL fs = [] := by
        rcases lcs_cases fs with ⟨h1, e1, e2⟩ | ⟨h1, _⟩ | ⟨h1, _⟩ | ⟨h1, _⟩
        · exact ⟨e1, e2⟩
        all_goals
          have := List.all_eq_true.1 h1 _ (pl_mem hn1)
          rw [hp] at this; cases this
      rw [e.1, e.2]
      repeat' (first | (apply AOps.nil; try simp only [List.nil_append, List.cons_append, List.set_cons_zero, List.set_cons_succ, List.length_cons, List.length_nil, Nat.reduceAdd, AV.sh, AV.sh1, AV.sh0, AO.sh, List.map_cons, List.map_nil, Nat.zero_add, Nat.add_zero, setAll]) | ((apply AOps.splitP; exact rfl; exact rfl) <;> intro h) | (apply w_move; exact rfl; exact rfl) | (apply w_assign; exact rfl; exact rfl) | apply AWp.seq | apply AWp.region | ((apply AWp.condP; exact rfl) <;> intro h) | (apply AWp.condT; exact rfl) | apply AWp.block | apply AWp.ret | apply AWp.exit | apply AWp.skip | (apply w_skip; exact rfl) | (apply w_pickT; exact rfl; exact rfl; exact rfl) | (apply w_pickF; exact rfl; exact rfl; exact rfl) | ((first | apply w_lss | apply w_gtr); iterate 3 exact rfl) | ((apply w_lenps); iterate 2 exact rfl) | (apply w_idxps; iterate 3 exact rfl) | (apply w_ldps; iterate 3 exact rfl) | (apply w_call (hq); exact rfl; exact rfl; focus ((repeat (first | exact im_nil | refine im_cons rfl (im_agg1 (.intss _)) ?_)); done)) | omega | ((apply w_not); iterate 2 exact rfl))
      exact ⟨_, _, _, .a2 Try.results19 rfl rfl, .tup2 (.nil _), rfl, rfl⟩
    | true =>
      rw [hp] at hq
      repeat' (first | (apply AOps.nil; try simp only [List.nil_append, List.cons_append, List.set_cons_zero, List.set_cons_succ, List.length_cons, List.length_nil, Nat.reduceAdd, AV.sh, AV.sh1, AV.sh0, AO.sh, List.map_cons, List.map_nil, Nat.zero_add, Nat.add_zero, setAll]) | ((apply AOps.splitP; exact rfl; exact rfl) <;> intro h) | (apply w_move; exact rfl; exact rfl) | (apply w_assign; exact rfl; exact rfl) | apply AWp.seq | apply AWp.region | ((apply AWp.condP; exact rfl) <;> intro h) | (apply AWp.condT; exact rfl) | (apply AWp.condF; exact rfl) | apply AWp.block | apply AWp.ret | apply AWp.exit | apply AWp.skip | (apply w_skip; exact rfl) | (apply w_pickT; exact rfl; exact rfl; exact rfl) | (apply w_pickF; exact rfl; exact rfl; exact rfl) | ((first | apply w_lss | apply w_gtr | apply w_add); iterate 3 exact rfl) | ((apply w_lenps); iterate 2 exact rfl) | (apply w_idxps; iterate 3 exact rfl) | (apply w_ldps; iterate 3 exact rfl) | (apply w_call (hq); exact rfl; exact rfl; focus ((repeat (first | exact im_nil | refine im_cons rfl (im_agg1 (.intss _)) ?_)); done)) | omega | ((apply w_not); iterate 2 exact rfl) | (apply inI_of <;> omega))
      refine ⟨n + 1, ⟨hn1, fun j hj => ?_⟩, by omega, ⟨lee rfl (by (repeat (first | exact le_nil | refine le_eq rfl rfl ?_))), by (repeat (exact lo_nil)), rfl, rfl⟩⟩
      by_cases e : j = n
      · subst e; exact hp
      · exact h4 j (by omega)
  · have hpo : ∀ j : Nat, j < fs.length → isPo (fs.getD j []) = true := fun j hj => h4 j (by omega)
    have h1 : fs.all isPo = true := List.all_eq_true.2 fun f hf => by
      obtain ⟨j, hj, rfl⟩ := List.getElem_of_mem hf
      have := hpo j hj
      rw [List.getD_eq_getElem?_getD, List.getElem?_eq_getElem hj] at this
      exact this
    by_cases h2 : 1 ≤ fs.length ∧ fs.length ≤ 3
    · repeat' (first | (apply AOps.nil; try simp only [List.nil_append, List.cons_append, List.set_cons_zero, List.set_cons_succ, List.length_cons, List.length_nil, Nat.reduceAdd, AV.sh, AV.sh1, AV.sh0, AO.sh, List.map_cons, List.map_nil, Nat.zero_add, Nat.add_zero, setAll]) | ((apply AOps.splitP; exact rfl; exact rfl) <;> intro h) | (apply w_move; exact rfl; exact rfl) | (apply w_assign; exact rfl; exact rfl) | apply AWp.seq | apply AWp.region | ((apply AWp.condP; exact rfl) <;> intro h) | (apply AWp.condT; exact rfl) | apply AWp.block | apply AWp.ret | apply AWp.exit | apply AWp.skip | (apply w_skip; exact rfl) | (apply w_pickT; exact rfl; exact rfl; exact rfl) | (apply w_pickF; exact rfl; exact rfl; exact rfl) | ((first | apply w_lss | apply w_gtr); iterate 3 exact rfl) | ((apply w_lenps); iterate 2 exact rfl) | (apply w_idxps; iterate 3 exact rfl) | (apply w_ldps; iterate 3 exact rfl) | omega)
      refine AWp.loop (ι := Nat) (fun n => ⟨46, [(0, .ro (polsRo fs)), (5, .i n)]⟩) (fun n => []) (fun n => n ≤ fs.length ∧ ∀ j, j < n → lowB (fs.getD j []) 0 = false) (fun n => fs.length - n) 0 ⟨by omega, fun j hj => by omega⟩ ⟨lee rfl (by (repeat (first | exact le_nil | refine le_eq rfl rfl ?_))), by (repeat (exact lo_nil)), rfl, rfl⟩ ?_
      rintro m ⟨h5, h6⟩
      by_cases hm1 : m < fs.length
      · have hq := l17Low_c (fs.getD m []) (hpo m hm1) 1
        rw [show (1 : Int) - 1 = 0 from rfl] at hq
        cases hp : lowB (fs.getD m []) 0 with
        | true =>
          rw [hp] at hq
          have e : lcsE fs = 5 ∧ lcsL fs = [] := by
            rcases lcs_cases fs with ⟨h7, _⟩ | ⟨_, h7, _⟩ | ⟨_, _, _, e1, e2⟩ | ⟨_, _, h7, _⟩
            · rw [h1] at h7; cases h7
            · exact absurd h2 h7
            · exact ⟨e1, e2⟩
            · have := List.any_eq_false.1 h7 _ (pl_mem hm1)
              exact absurd hp (by simpa using this)
          rw [e.1, e.2]
          repeat' (first | (apply AOps.nil; try simp only [List.nil_append, List.cons_append, List.set_cons_zero, List.set_cons_succ, List.length_cons, List.length_nil, Nat.reduceAdd, AV.sh, AV.sh1, AV.sh0, AO.sh, List.map_cons, List.map_nil, Nat.zero_add, Nat.add_zero, setAll]) | (apply w_move; exact rfl; exact rfl) | (apply w_assign; exact rfl; exact rfl) | apply AWp.seq | apply AWp.region | ((apply AWp.condP; exact rfl) <;> intro h) | (apply AWp.condT; exact rfl) | apply AWp.block | apply AWp.ret | apply AWp.exit | apply AWp.skip | ((apply w_lss); iterate 3 exact rfl) | ((apply w_lenps); iterate 2 exact rfl) | (apply w_idxps; iterate 3 exact rfl) | (apply w_ldps; iterate 3 exact rfl) | (apply w_call (hq); exact rfl; exact rfl; focus ((repeat (first | exact im_nil | refine im_cons rfl (.val _) ?_ | refine im_cons rfl (im_agg1 (.intss _)) ?_)); done)) | omega)
          exact ⟨_, _, _, .a2 Try.results19 rfl rfl, .tup2 (.nil _), rfl, rfl⟩
        | false =>
          rw [hp] at hq
          repeat' (first | (apply AOps.nil; try simp only [List.nil_append, List.cons_append, List.set_cons_zero, List.set_cons_succ, List.length_cons, List.length_nil, Nat.reduceAdd, AV.sh, AV.sh1, AV.sh0, AO.sh, List.map_cons, List.map_nil, Nat.zero_add, Nat.add_zero, setAll]) | (apply w_move; exact rfl; exact rfl) | (apply w_assign; exact rfl; exact rfl) | apply AWp.seq | apply AWp.region | ((apply AWp.condP; exact rfl) <;> intro h) | (apply AWp.condF; exact rfl) | apply AWp.block | apply AWp.exit | apply AWp.skip | ((first | apply w_lss | apply w_add); iterate 3 exact rfl) | ((apply w_lenps); iterate 2 exact rfl) | (apply w_idxps; iterate 3 exact rfl) | (apply w_ldps; iterate 3 exact rfl) | (apply w_call (hq); exact rfl; exact rfl; focus ((repeat (first | exact im_nil | refine im_cons rfl (.val _) ?_ | refine im_cons rfl (im_agg1 (.intss _)) ?_)); done)) | omega | (apply inI_of <;> omega))
          refine ⟨m + 1, ⟨hm1, fun j hj => ?_⟩, by omega, ⟨lee rfl (by (repeat (first | exact le_nil | refine le_eq rfl rfl ?_))), by (repeat (exact lo_nil)), rfl, rfl⟩⟩
          by_cases e : j = m
          · subst e; exact hp
          · exact h6 j (by omega)
      · have h7 : fs.any (fun f => lowB f 0) = false := List.any_eq_false.2 fun f hf => by
          obtain ⟨j, hj, rfl⟩ := List.getElem_of_mem hf
          have := h6 j (by omega)
          rw [List.getD_eq_getElem?_getD, List.getElem?_eq_getElem hj] at this
          simpa using this
        have e : lcsE fs = locE (isLd fs) ∧ lcsL fs = locL (isLd fs) := by
          rcases lcs_cases fs with ⟨h8, _⟩ | ⟨_, h8, _⟩ | ⟨_, _, h8, _⟩ | ⟨_, _, _, e1, e2⟩
          · rw [h1] at h8; cases h8
          · exact absurd h2 h8
          · rw [h7] at h8; cases h8
          · exact ⟨e1, e2⟩
        rw [e.1, e.2]
        have hloc := l17Local_c fs (fun f hf => poO_of (List.all_eq_true.1 h1 f hf)) (by omega)
        repeat' (first | (apply AOps.nil; try simp only [List.nil_append, List.cons_append, List.set_cons_zero, List.set_cons_succ, List.length_cons, List.length_nil, Nat.reduceAdd, AV.sh, AV.sh1, AV.sh0, AO.sh, List.map_cons, List.map_nil, Nat.zero_add, Nat.add_zero, setAll]) | (apply w_move; exact rfl; exact rfl) | (apply w_assign; exact rfl; exact rfl) | apply AWp.seq | apply AWp.region | ((apply AWp.condP; exact rfl) <;> intro h) | apply AWp.block | apply AWp.ret | apply AWp.exit | apply AWp.skip | ((first | apply w_lss | apply w_extv); iterate 3 exact rfl) | ((apply w_lenps); iterate 2 exact rfl) | (apply w_idxps; iterate 3 exact rfl) | (apply w_ldps; iterate 3 exact rfl) | (apply w_callm (hloc); (focus ((repeat (first | exact im_nil | refine im_cons rfl (.ro _) ?_)); done)); rintro r os0 ⟨rfl, rfl⟩; try simp only [List.nil_append, List.cons_append, List.set_cons_zero, List.set_cons_succ, List.length_cons, List.length_nil, Nat.reduceAdd, AV.sh, AV.sh1, AV.sh0, AO.sh, List.map_cons, List.map_nil, Nat.zero_add, Nat.add_zero, setAll]) | omega | ((apply w_ext); iterate 3 exact rfl))
        exact ⟨_, _, _, .a2 Try.results19 rfl rfl, .tup2 (.sli rfl), rfl, rfl⟩
    · have e : lcsE fs = 2 ∧ lcsL fs = [] := by
        rcases lcs_cases fs with ⟨h7, _⟩ | ⟨_, _, e1, e2⟩ | ⟨_, h7, _⟩ | ⟨_, h7, _⟩
        · rw [h1] at h7; cases h7
        · exact ⟨e1, e2⟩
        · exact absurd h7 h2
        · exact absurd h7 h2
      rw [e.1, e.2]
      repeat' (first | (apply AOps.nil; try simp only [List.nil_append, List.cons_append, List.set_cons_zero, List.set_cons_succ, List.length_cons, List.length_nil, Nat.reduceAdd, AV.sh, AV.sh1, AV.sh0, AO.sh, List.map_cons, List.map_nil, Nat.zero_add, Nat.add_zero, setAll]) | ((apply AOps.splitP; exact rfl; exact rfl) <;> intro h) | (apply w_move; exact rfl; exact rfl) | (apply w_assign; exact rfl; exact rfl) | apply AWp.seq | apply AWp.region | ((apply AWp.condP; exact rfl) <;> intro h) | (apply AWp.condT; exact rfl) | apply AWp.block | apply AWp.ret | apply AWp.exit | apply AWp.skip | (apply w_skip; exact rfl) | (apply w_pickT; exact rfl; exact rfl; exact rfl) | (apply w_pickF; exact rfl; exact rfl; exact rfl) | ((first | apply w_lss | apply w_gtr); iterate 3 exact rfl) | ((apply w_lenps); iterate 2 exact rfl) | (apply w_idxps; iterate 3 exact rfl) | (apply w_ldps; iterate 3 exact rfl) | omega)
      all_goals exact ⟨_, _, _, .a2 Try.results19 rfl rfl, .tup2 (.nil _), rfl, rfl⟩
theorem lcs_key {fs : List (List (List Int))} (h : lcsE fs ≠ 0) : lcsL fs = [] := by
  rcases lcs_cases fs with ⟨h1, e1, e2⟩ | ⟨h1, h2, e1, e2⟩ | ⟨h1, h2, h3, e1, e2⟩ | ⟨h1, h2, h3, e1, e2⟩
  · exact e2
  · exact e2
  · exact e2
  · rw [e2]; exact locL_n (e1 ▸ h)
theorem lcsE_in (fs : List (List (List Int))) : 0 ≤ lcsE fs ∧ lcsE fs ≤ 10 := by
  rcases lcs_cases fs with ⟨h1, e1, e2⟩ | ⟨h1, h2, e1, e2⟩ | ⟨h1, h2, h3, e1, e2⟩ | ⟨h1, h2, h3, e1, e2⟩
  · omega
  · omega
  · omega
  · rcases locE_or (isLd fs) with h | h <;> rw [e1, h] <;> decide
end Go.Proofs.Ytifkgmbghcmdeaa
/-
  The laws' helpers that write marks into a result and look for them. No condition but a bound on the sizes.
-/
namespace Go.Proofs.Ytifkgmbghcmdeaa
open Go Go.RowKit
attribute [local irreducible] AWp AOps ResIs Ret1 QOp LOp COp AFnV AFn Imms LeE LeO
set_option maxHeartbeats 1000000
set_option linter.unusedSimpArgs false
set_option linter.unusedVariables false

/-- k, k + 1, .. -/
def iota (k : Int) (n : Nat) : List Int := (List.range n).map fun i => k + (i : Nat)
theorem iota_len (k : Int) (n : Nat) : (iota k n).length = n := by simp [iota]
theorem iota_get (k : Int) (n i : Nat) (h : i < n) : geti (iota k n) i = k + i := by simp [geti, iota, h]

theorem mark_step (k : Int) (xs : List Int) (i : Nat) (h : i < xs.length) : (iota k i ++ xs.drop i).set i (k + i) = iota k (i + 1) ++ xs.drop (i + 1) := by
  rw [List.set_append_right _ _ (by rw [iota_len]; exact Nat.le_refl _), iota_len, Nat.sub_self, List.drop_eq_getElem_cons h, List.set_cons_zero]
  simp [iota, List.range_succ]

theorem markInt64S_c (T : TypeId) (xs : List Int) (k : Int) (hq : 0 ≤ k ∧ k ≤ 9007199254740992) (hl : xs.length ≤ 9007199254740992) : AFnU Try.prog 16 [.own 0, .i k] [.sli T xs] (fun v os => v = .int .i64 (k + xs.length) ∧ os = [.sli T (iota k xs.length)]) := by
  (refine AFnU.start Try.func16 Try.ntmps16 rfl (by kernel_rfl) fun K => ?_; simp only [Env.start, enumF, List.length_cons, List.length_nil, Nat.reduceAdd, Nat.reduceSub, List.cons_append, List.nil_append])
  repeat' (first
  | (apply AOps.nil; try simp only [List.nil_append, List.cons_append, List.set_cons_zero, List.set_cons_succ, List.length_cons, List.length_nil, Nat.reduceAdd, AV.sh, AV.sh1, AV.sh0, AO.sh, List.map_cons, List.map_nil, Nat.zero_add, Nat.add_zero, setAll])
  | ((apply AOps.splitP; exact rfl; exact rfl) <;> intro h)
  | ((apply AOps.splitN; exact rfl; exact rfl) <;> intro h)
  | (apply w_move; exact rfl; exact rfl)
  | (apply w_assign; exact rfl; exact rfl)
  | apply AWp.seq
  | apply AWp.region
  | ((apply AWp.condP; exact rfl) <;> intro h)
  | ((apply AWp.condN; exact rfl) <;> intro h)
  | (apply AWp.condT; exact rfl)
  | (apply AWp.condF; exact rfl)
  | ((apply AWp.condB; exact rfl) <;> intro h)
  | apply AWp.block
  | apply AWp.ret
  | apply AWp.exit
  | apply AWp.skip
  | (apply AWp.regionQ; kernel_rfl; kernel_rfl)
  | (apply if_pos'; exact rfl)
  | (apply if_neg'; decide)
  | (apply w_skip; exact rfl)
  | (apply w_pickT; exact rfl; exact rfl; exact rfl)
  | (apply w_pickF; exact rfl; exact rfl; exact rfl)
  | (apply w_len; exact rfl; exact rfl; first | exact .ints _ | exact .intss _ | exact .sli rfl | exact .sls rfl | exact .slr rfl | exact .orow rfl | exact .nil)
  | ((first | apply w_lss | apply w_leq | apply w_gtr | apply w_geq | apply w_eql | apply w_neq | apply w_add | apply w_sub | apply w_mul | apply w_idx | apply w_ld | apply w_fld | apply w_fa | apply w_extv | apply w_min | apply w_max | apply w_slhi | apply w_sllo | apply w_bs2); iterate 3 exact rfl)
  | ((first | apply w_eqlb | apply w_neqb | apply w_idxs | apply w_lds | apply w_ext); iterate 3 exact rfl)
  | (apply w_rem; exact rfl; exact rfl; exact rfl; (focus (omega; done)); (focus (omega; done)))
  | (apply w_quo; exact rfl; exact rfl; exact rfl; (focus (omega; done)); (focus (omega; done)))
  | (apply w_remT; exact rfl; exact rfl; exact rfl)
  | (apply w_quoT; exact rfl; exact rfl; exact rfl)
  | ((first | apply w_not | apply w_neg | apply w_conv | apply w_build0 | apply w_bs1 | apply w_boxa); iterate 2 exact rfl)
  | (apply w_idxo; exact rfl; exact rfl; (first | exact .sli rfl | exact .sls rfl | exact .slr rfl); exact rfl)
  | ((first | apply w_idxr | apply w_ldr); iterate 4 exact rfl)
  | (apply w_ldo; iterate 4 exact rfl)
  | (apply w_ldls; iterate 4 exact rfl)
  | (apply w_ldrp; iterate 4 exact rfl)
  | (apply w_ldb; iterate 5 exact rfl)
  | (apply w_ldst; iterate 5 exact rfl)
  | ((first | apply w_sllh | apply w_stbi); iterate 4 exact rfl)
  | ((first | apply w_oslo | apply w_oshi | apply w_stbii); iterate 4 exact rfl)
  | (apply w_copy; exact rfl; (first | exact .own rfl rfl rfl | exact .osub); exact rfl; rotate_left 1; exact rfl; (first | exact .ints _ | exact .sli rfl | exact .orow rfl | exact .nil | exact .osub rfl (by simp; omega)))
  | (apply w_build1; exact rfl; exact rfl; (first | exact one_val rfl rfl | exact one_ints | exact one_intss | exact one_own rfl True.intro))
  | (apply w_build2; exact rfl; exact rfl; exact rfl; (first | exact one_val rfl rfl | exact one_ints | exact one_intss | exact one_own rfl True.intro); (first | exact one_val rfl rfl | exact one_ints | exact one_intss | exact one_own rfl True.intro))
  | (apply w_bs0; iterate 1 exact rfl)
  | (apply w_appn; exact rfl; exact rfl; (first | exact .ints _ | exact .sli rfl | exact .orow rfl | exact .nil | exact .osub rfl (by simp; omega)); exact rfl)
  | (apply w_app; exact rfl; exact rfl; exact rfl; exact rfl; (first | exact .ints _ | exact .sli rfl | exact .orow rfl | exact .nil | exact .osub rfl (by simp; omega)); rotate_left 1; simp only [Env.mp, List.map_cons, List.map_nil, List.set_cons_zero, List.set_cons_succ, AV.kill, AV.kill1, AO.kill, AV.noRow, AV.noRow1, AO.via, reduceIte, Nat.reduceEqDiff, Nat.reduceLT, Env.up, Nat.zero_ne_one, Nat.one_ne_zero, Nat.reduceAdd, List.cons_append, List.nil_append]; rotate_left 1)
  | (apply w_alst; iterate 2 exact rfl)
  | (apply w_alone; iterate 3 exact rfl)
  | (apply w_mki; exact rfl; exact rfl; rotate_left 3; exact rfl; rotate_left 1)
  | (apply w_mkr; exact rfl; exact rfl; rotate_left 3; exact rfl; rotate_left 1)
  | (apply w_strow; exact rfl; exact rfl; rotate_left 1; exact rfl; exact rfl; exact rfl; exact rfl; simp only [Env.mp, List.map_cons, List.map_nil, List.set_cons_zero, List.set_cons_succ, AV.kill, AV.kill1, AO.kill, AV.noRow, AV.noRow1, AO.via, reduceIte, Nat.reduceEqDiff, Nat.reduceLT, Env.up, Nat.zero_ne_one, Nat.one_ne_zero, Nat.reduceAdd, List.cons_append, List.nil_append]; rotate_left 1)
  | (apply w_sti; exact rfl; exact rfl; rotate_left 1; exact rfl; rotate_left 2)
  | (apply w_stst; iterate 5 exact rfl)
  | (apply w_stbv; iterate 6 exact rfl)
  | (apply w_stbo; exact rfl; exact rfl; exact rfl; exact rfl; exact rfl; exact True.intro)
  | ((apply AOps.splitB; exact rfl; exact rfl) <;> intro h)
  | apply AllOf.nil
  | (apply AllOf.cons; exact rfl)
  | (apply AAny.take; exact rfl; exact rfl; kernel_rfl; kernel_rfl)
  | (apply AAny.all; exact rfl)
  | (apply AAny.done; exact rfl)
  | (apply inI_of <;> omega)
  | omega
  | (simp <;> omega))
  refine AWp.loop (ι := Nat) (fun i => ⟨19, [(0, .own 0), (1, .i (k + i)), (5, .i i)]⟩) (fun i => [.sli T (iota k i ++ xs.drop i), .keep 2 K]) (fun i => i ≤ xs.length) (fun i => xs.length - i) 0 (by omega) ⟨lee rfl (le_eq rfl rfl (le_eq rfl (congrArg AV.i (by omega)) (le_eq rfl rfl le_nil))), lo_eq (by simp [iota]) (lo_eq rfl lo_nil), rfl, rfl⟩ ?_
  rintro i h0
  have e1 : (iota k i ++ xs.drop i).length = xs.length := by simp [iota_len]; omega
  repeat' (first
  | (apply AOps.nil; try simp only [List.nil_append, List.cons_append, List.set_cons_zero, List.set_cons_succ, List.length_cons, List.length_nil, Nat.reduceAdd, AV.sh, AV.sh1, AV.sh0, AO.sh, List.map_cons, List.map_nil, Nat.zero_add, Nat.add_zero, setAll])
  | ((apply AOps.splitP; exact rfl; exact rfl) <;> intro h)
  | ((apply AOps.splitN; exact rfl; exact rfl) <;> intro h)
  | (apply w_move; exact rfl; exact rfl)
  | (apply w_assign; exact rfl; exact rfl)
  | apply AWp.seq
  | apply AWp.region
  | ((apply AWp.condP; exact rfl) <;> intro h)
  | ((apply AWp.condN; exact rfl) <;> intro h)
  | (apply AWp.condT; exact rfl)
  | (apply AWp.condF; exact rfl)
  | ((apply AWp.condB; exact rfl) <;> intro h)
  | apply AWp.block
  | apply AWp.ret
  | apply AWp.exit
  | apply AWp.skip
  | (apply AWp.regionQ; kernel_rfl; kernel_rfl)
  | (apply if_pos'; exact rfl)
  | (apply if_neg'; decide)
  | (apply w_skip; exact rfl)
  | (apply w_pickT; exact rfl; exact rfl; exact rfl)
  | (apply w_pickF; exact rfl; exact rfl; exact rfl)
  | (apply w_len; exact rfl; exact rfl; first | exact .ints _ | exact .intss _ | exact .sli rfl | exact .sls rfl | exact .slr rfl | exact .orow rfl | exact .nil)
  | ((first | apply w_lss | apply w_leq | apply w_gtr | apply w_geq | apply w_eql | apply w_neq | apply w_add | apply w_sub | apply w_mul | apply w_idx | apply w_ld | apply w_fld | apply w_fa | apply w_extv | apply w_min | apply w_max | apply w_slhi | apply w_sllo | apply w_bs2); iterate 3 exact rfl)
  | ((first | apply w_eqlb | apply w_neqb | apply w_idxs | apply w_lds | apply w_ext); iterate 3 exact rfl)
  | (apply w_rem; exact rfl; exact rfl; exact rfl; (focus (omega; done)); (focus (omega; done)))
  | (apply w_quo; exact rfl; exact rfl; exact rfl; (focus (omega; done)); (focus (omega; done)))
  | (apply w_remT; exact rfl; exact rfl; exact rfl)
  | (apply w_quoT; exact rfl; exact rfl; exact rfl)
  | ((first | apply w_not | apply w_neg | apply w_conv | apply w_build0 | apply w_bs1 | apply w_boxa); iterate 2 exact rfl)
  | (apply w_idxo; exact rfl; exact rfl; (first | exact .sli rfl | exact .sls rfl | exact .slr rfl); exact rfl)
  | ((first | apply w_idxr | apply w_ldr); iterate 4 exact rfl)
  | (apply w_ldo; iterate 4 exact rfl)
  | (apply w_ldls; iterate 4 exact rfl)
  | (apply w_ldrp; iterate 4 exact rfl)
  | (apply w_ldb; iterate 5 exact rfl)
  | (apply w_ldst; iterate 5 exact rfl)
  | ((first | apply w_sllh | apply w_stbi); iterate 4 exact rfl)
  | ((first | apply w_oslo | apply w_oshi | apply w_stbii); iterate 4 exact rfl)
  | (apply w_copy; exact rfl; (first | exact .own rfl rfl rfl | exact .osub); exact rfl; rotate_left 1; exact rfl; (first | exact .ints _ | exact .sli rfl | exact .orow rfl | exact .nil | exact .osub rfl (by simp; omega)))
  | (apply w_build1; exact rfl; exact rfl; (first | exact one_val rfl rfl | exact one_ints | exact one_intss | exact one_own rfl True.intro))
  | (apply w_build2; exact rfl; exact rfl; exact rfl; (first | exact one_val rfl rfl | exact one_ints | exact one_intss | exact one_own rfl True.intro); (first | exact one_val rfl rfl | exact one_ints | exact one_intss | exact one_own rfl True.intro))
  | (apply w_bs0; iterate 1 exact rfl)
  | (apply w_appn; exact rfl; exact rfl; (first | exact .ints _ | exact .sli rfl | exact .orow rfl | exact .nil | exact .osub rfl (by simp; omega)); exact rfl)
  | (apply w_app; exact rfl; exact rfl; exact rfl; exact rfl; (first | exact .ints _ | exact .sli rfl | exact .orow rfl | exact .nil | exact .osub rfl (by simp; omega)); rotate_left 1; simp only [Env.mp, List.map_cons, List.map_nil, List.set_cons_zero, List.set_cons_succ, AV.kill, AV.kill1, AO.kill, AV.noRow, AV.noRow1, AO.via, reduceIte, Nat.reduceEqDiff, Nat.reduceLT, Env.up, Nat.zero_ne_one, Nat.one_ne_zero, Nat.reduceAdd, List.cons_append, List.nil_append]; rotate_left 1)
  | (apply w_alst; iterate 2 exact rfl)
  | (apply w_alone; iterate 3 exact rfl)
  | (apply w_mki; exact rfl; exact rfl; rotate_left 3; exact rfl; rotate_left 1)
  | (apply w_mkr; exact rfl; exact rfl; rotate_left 3; exact rfl; rotate_left 1)
  | (apply w_strow; exact rfl; exact rfl; rotate_left 1; exact rfl; exact rfl; exact rfl; exact rfl; simp only [Env.mp, List.map_cons, List.map_nil, List.set_cons_zero, List.set_cons_succ, AV.kill, AV.kill1, AO.kill, AV.noRow, AV.noRow1, AO.via, reduceIte, Nat.reduceEqDiff, Nat.reduceLT, Env.up, Nat.zero_ne_one, Nat.one_ne_zero, Nat.reduceAdd, List.cons_append, List.nil_append]; rotate_left 1)
  | (apply w_sti; exact rfl; exact rfl; rotate_left 1; exact rfl; rotate_left 2)
  | (apply w_stst; iterate 5 exact rfl)
  | (apply w_stbv; iterate 6 exact rfl)
  | (apply w_stbo; exact rfl; exact rfl; exact rfl; exact rfl; exact rfl; exact True.intro)
  | ((apply AOps.splitB; exact rfl; exact rfl) <;> intro h)
  | apply AllOf.nil
  | (apply AllOf.cons; exact rfl)
  | (apply AAny.take; exact rfl; exact rfl; kernel_rfl; kernel_rfl)
  | (apply AAny.all; exact rfl)
  | (apply AAny.done; exact rfl)
  | (apply inI_of <;> omega)
  | omega
  | (simp <;> omega))
  · have e2 : (iota k i ++ xs.drop i).set ((i : Int)).toNat (k + i) = iota k (i + 1) ++ xs.drop (i + 1) := mark_step k xs i (by omega)
    exact ⟨i + 1, by omega, by omega, ⟨lee rfl (by (repeat (first | exact le_nil | refine le_eq rfl rfl ?_ | refine le_eq rfl (congrArg AV.i (by omega)) ?_ | refine le_eq rfl (congrArg AV.i (e2)) ?_))), by (repeat (first | exact lo_nil | refine lo_dead ?_ | refine lo_eq rfl ?_ | refine lo_eq (congrArg (AO.sli _) (e2)) ?_ | refine lo_eq (congrArg (AO.sls _ _) (e2)) ?_)), rfl, rfl⟩⟩
  · have e : i = xs.length := by omega
    subst e
    exact ⟨_, _, .int Try.results16 rfl rfl, ⟨rfl, rfl⟩, by simp, rfl, by simp [AO.plain]⟩

theorem heldInt64S_c (n : Nat) (k : Int) (hq : 0 ≤ k ∧ k ≤ 9007199254740992) (hl : n ≤ 9007199254740992) : AFnV Try.prog 17 [.ints (iota k n), .i k] (.int .i64 (k + n)) := by
  (refine AFnV.start Try.func17 Try.ntmps17 rfl (by kernel_rfl) fun hk => ?_; simp only [Env.start, enumF, List.length_cons, List.length_nil, Nat.reduceAdd, Nat.reduceSub, List.cons_append, List.nil_append])
  repeat' (first
  | (apply AOps.nil; try simp only [List.nil_append, List.cons_append, List.set_cons_zero, List.set_cons_succ, List.length_cons, List.length_nil, Nat.reduceAdd, AV.sh, AV.sh1, AV.sh0, AO.sh, List.map_cons, List.map_nil, Nat.zero_add, Nat.add_zero, setAll])
  | ((apply AOps.splitP; exact rfl; exact rfl) <;> intro h)
  | ((apply AOps.splitN; exact rfl; exact rfl) <;> intro h)
  | (apply w_move; exact rfl; exact rfl)
  | (apply w_assign; exact rfl; exact rfl)
  | apply AWp.seq
  | apply AWp.region
  | ((apply AWp.condP; exact rfl) <;> intro h)
  | ((apply AWp.condN; exact rfl) <;> intro h)
  | (apply AWp.condT; exact rfl)
  | (apply AWp.condF; exact rfl)
  | ((apply AWp.condB; exact rfl) <;> intro h)
  | apply AWp.block
  | apply AWp.ret
  | apply AWp.exit
  | apply AWp.skip
  | (apply AWp.regionQ; kernel_rfl; kernel_rfl)
  | (apply if_pos'; exact rfl)
  | (apply if_neg'; decide)
  | (apply w_skip; exact rfl)
  | (apply w_pickT; exact rfl; exact rfl; exact rfl)
  | (apply w_pickF; exact rfl; exact rfl; exact rfl)
  | (apply w_len; exact rfl; exact rfl; first | exact .ints _ | exact .intss _ | exact .sli rfl | exact .sls rfl | exact .slr rfl | exact .orow rfl | exact .nil)
  | ((first | apply w_lss | apply w_leq | apply w_gtr | apply w_geq | apply w_eql | apply w_neq | apply w_add | apply w_sub | apply w_mul | apply w_idx | apply w_ld | apply w_fld | apply w_fa | apply w_extv | apply w_min | apply w_max | apply w_slhi | apply w_sllo | apply w_bs2); iterate 3 exact rfl)
  | ((first | apply w_eqlb | apply w_neqb | apply w_idxs | apply w_lds | apply w_ext); iterate 3 exact rfl)
  | (apply w_rem; exact rfl; exact rfl; exact rfl; (focus (omega; done)); (focus (omega; done)))
  | (apply w_quo; exact rfl; exact rfl; exact rfl; (focus (omega; done)); (focus (omega; done)))
  | (apply w_remT; exact rfl; exact rfl; exact rfl)
  | (apply w_quoT; exact rfl; exact rfl; exact rfl)
  | ((first | apply w_not | apply w_neg | apply w_conv | apply w_build0 | apply w_bs1 | apply w_boxa); iterate 2 exact rfl)
  | (apply w_idxo; exact rfl; exact rfl; (first | exact .sli rfl | exact .sls rfl | exact .slr rfl); exact rfl)
  | ((first | apply w_idxr | apply w_ldr); iterate 4 exact rfl)
  | (apply w_ldo; iterate 4 exact rfl)
  | (apply w_ldls; iterate 4 exact rfl)
  | (apply w_ldrp; iterate 4 exact rfl)
  | (apply w_ldb; iterate 5 exact rfl)
  | (apply w_ldst; iterate 5 exact rfl)
  | ((first | apply w_sllh | apply w_stbi); iterate 4 exact rfl)
  | ((first | apply w_oslo | apply w_oshi | apply w_stbii); iterate 4 exact rfl)
  | (apply w_copy; exact rfl; (first | exact .own rfl rfl rfl | exact .osub); exact rfl; rotate_left 1; exact rfl; (first | exact .ints _ | exact .sli rfl | exact .orow rfl | exact .nil | exact .osub rfl (by simp; omega)))
  | (apply w_build1; exact rfl; exact rfl; (first | exact one_val rfl rfl | exact one_ints | exact one_intss | exact one_own rfl True.intro))
  | (apply w_build2; exact rfl; exact rfl; exact rfl; (first | exact one_val rfl rfl | exact one_ints | exact one_intss | exact one_own rfl True.intro); (first | exact one_val rfl rfl | exact one_ints | exact one_intss | exact one_own rfl True.intro))
  | (apply w_bs0; iterate 1 exact rfl)
  | (apply w_appn; exact rfl; exact rfl; (first | exact .ints _ | exact .sli rfl | exact .orow rfl | exact .nil | exact .osub rfl (by simp; omega)); exact rfl)
  | (apply w_app; exact rfl; exact rfl; exact rfl; exact rfl; (first | exact .ints _ | exact .sli rfl | exact .orow rfl | exact .nil | exact .osub rfl (by simp; omega)); rotate_left 1; simp only [Env.mp, List.map_cons, List.map_nil, List.set_cons_zero, List.set_cons_succ, AV.kill, AV.kill1, AO.kill, AV.noRow, AV.noRow1, AO.via, reduceIte, Nat.reduceEqDiff, Nat.reduceLT, Env.up, Nat.zero_ne_one, Nat.one_ne_zero, Nat.reduceAdd, List.cons_append, List.nil_append]; rotate_left 1)
  | (apply w_alst; iterate 2 exact rfl)
  | (apply w_alone; iterate 3 exact rfl)
  | (apply w_mki; exact rfl; exact rfl; rotate_left 3; exact rfl; rotate_left 1)
  | (apply w_mkr; exact rfl; exact rfl; rotate_left 3; exact rfl; rotate_left 1)
  | (apply w_strow; exact rfl; exact rfl; rotate_left 1; exact rfl; exact rfl; exact rfl; exact rfl; simp only [Env.mp, List.map_cons, List.map_nil, List.set_cons_zero, List.set_cons_succ, AV.kill, AV.kill1, AO.kill, AV.noRow, AV.noRow1, AO.via, reduceIte, Nat.reduceEqDiff, Nat.reduceLT, Env.up, Nat.zero_ne_one, Nat.one_ne_zero, Nat.reduceAdd, List.cons_append, List.nil_append]; rotate_left 1)
  | (apply w_sti; exact rfl; exact rfl; rotate_left 1; exact rfl; rotate_left 2)
  | (apply w_stst; iterate 5 exact rfl)
  | (apply w_stbv; iterate 6 exact rfl)
  | (apply w_stbo; exact rfl; exact rfl; exact rfl; exact rfl; exact rfl; exact True.intro)
  | ((apply AOps.splitB; exact rfl; exact rfl) <;> intro h)
  | apply AllOf.nil
  | (apply AllOf.cons; exact rfl)
  | (apply AAny.take; exact rfl; exact rfl; kernel_rfl; kernel_rfl)
  | (apply AAny.all; exact rfl)
  | (apply AAny.done; exact rfl)
  | (apply inI_of <;> omega)
  | omega
  | (simp <;> omega))
  refine AWp.loop (ι := Nat) (fun i => ⟨21, [(0, .ints (iota k n)), (1, .i (k + i)), (5, .i i)]⟩) (fun i => []) (fun i => i ≤ n) (fun i => n - i) 0 (by omega) ⟨lee rfl (by (repeat (first | exact le_nil | refine le_eq rfl rfl ?_ | refine le_eq rfl (congrArg AV.i (by omega)) ?_))), by (repeat (first | exact lo_nil | refine lo_dead ?_ | refine lo_eq rfl ?_)), rfl, rfl⟩ ?_
  rintro i h0
  have e1 := iota_len k n
  repeat' (first
  | (apply AOps.nil; try simp only [List.nil_append, List.cons_append, List.set_cons_zero, List.set_cons_succ, List.length_cons, List.length_nil, Nat.reduceAdd, AV.sh, AV.sh1, AV.sh0, AO.sh, List.map_cons, List.map_nil, Nat.zero_add, Nat.add_zero, setAll])
  | ((apply AOps.splitP; exact rfl; exact rfl) <;> intro h)
  | ((apply AOps.splitN; exact rfl; exact rfl) <;> intro h)
  | (apply w_move; exact rfl; exact rfl)
  | (apply w_assign; exact rfl; exact rfl)
  | apply AWp.seq
  | apply AWp.region
  | ((apply AWp.condP; exact rfl) <;> intro h)
  | ((apply AWp.condN; exact rfl) <;> intro h)
  | (apply AWp.condT; exact rfl)
  | (apply AWp.condF; exact rfl)
  | ((apply AWp.condB; exact rfl) <;> intro h)
  | apply AWp.block
  | apply AWp.ret
  | apply AWp.exit
  | apply AWp.skip
  | (apply AWp.regionQ; kernel_rfl; kernel_rfl)
  | (apply if_pos'; exact rfl)
  | (apply if_neg'; decide)
  | (apply w_skip; exact rfl)
  | (apply w_pickT; exact rfl; exact rfl; exact rfl)
  | (apply w_pickF; exact rfl; exact rfl; exact rfl)
  | (apply w_len; exact rfl; exact rfl; first | exact .ints _ | exact .intss _ | exact .sli rfl | exact .sls rfl | exact .slr rfl | exact .orow rfl | exact .nil)
  | ((first | apply w_lss | apply w_leq | apply w_gtr | apply w_geq | apply w_eql | apply w_neq | apply w_add | apply w_sub | apply w_mul | apply w_idx | apply w_ld | apply w_fld | apply w_fa | apply w_extv | apply w_min | apply w_max | apply w_slhi | apply w_sllo | apply w_bs2); iterate 3 exact rfl)
  | ((first | apply w_eqlb | apply w_neqb | apply w_idxs | apply w_lds | apply w_ext); iterate 3 exact rfl)
  | (apply w_rem; exact rfl; exact rfl; exact rfl; (focus (omega; done)); (focus (omega; done)))
  | (apply w_quo; exact rfl; exact rfl; exact rfl; (focus (omega; done)); (focus (omega; done)))
  | (apply w_remT; exact rfl; exact rfl; exact rfl)
  | (apply w_quoT; exact rfl; exact rfl; exact rfl)
  | ((first | apply w_not | apply w_neg | apply w_conv | apply w_build0 | apply w_bs1 | apply w_boxa); iterate 2 exact rfl)
  | (apply w_idxo; exact rfl; exact rfl; (first | exact .sli rfl | exact .sls rfl | exact .slr rfl); exact rfl)
  | ((first | apply w_idxr | apply w_ldr); iterate 4 exact rfl)
  | (apply w_ldo; iterate 4 exact rfl)
  | (apply w_ldls; iterate 4 exact rfl)
  | (apply w_ldrp; iterate 4 exact rfl)
  | (apply w_ldb; iterate 5 exact rfl)
  | (apply w_ldst; iterate 5 exact rfl)
  | ((first | apply w_sllh | apply w_stbi); iterate 4 exact rfl)
  | ((first | apply w_oslo | apply w_oshi | apply w_stbii); iterate 4 exact rfl)
  | (apply w_copy; exact rfl; (first | exact .own rfl rfl rfl | exact .osub); exact rfl; rotate_left 1; exact rfl; (first | exact .ints _ | exact .sli rfl | exact .orow rfl | exact .nil | exact .osub rfl (by simp; omega)))
  | (apply w_build1; exact rfl; exact rfl; (first | exact one_val rfl rfl | exact one_ints | exact one_intss | exact one_own rfl True.intro))
  | (apply w_build2; exact rfl; exact rfl; exact rfl; (first | exact one_val rfl rfl | exact one_ints | exact one_intss | exact one_own rfl True.intro); (first | exact one_val rfl rfl | exact one_ints | exact one_intss | exact one_own rfl True.intro))
  | (apply w_bs0; iterate 1 exact rfl)
  | (apply w_appn; exact rfl; exact rfl; (first | exact .ints _ | exact .sli rfl | exact .orow rfl | exact .nil | exact .osub rfl (by simp; omega)); exact rfl)
  | (apply w_app; exact rfl; exact rfl; exact rfl; exact rfl; (first | exact .ints _ | exact .sli rfl | exact .orow rfl | exact .nil | exact .osub rfl (by simp; omega)); rotate_left 1; simp only [Env.mp, List.map_cons, List.map_nil, List.set_cons_zero, List.set_cons_succ, AV.kill, AV.kill1, AO.kill, AV.noRow, AV.noRow1, AO.via, reduceIte, Nat.reduceEqDiff, Nat.reduceLT, Env.up, Nat.zero_ne_one, Nat.one_ne_zero, Nat.reduceAdd, List.cons_append, List.nil_append]; rotate_left 1)
  | (apply w_alst; iterate 2 exact rfl)
  | (apply w_alone; iterate 3 exact rfl)
  | (apply w_mki; exact rfl; exact rfl; rotate_left 3; exact rfl; rotate_left 1)
  | (apply w_mkr; exact rfl; exact rfl; rotate_left 3; exact rfl; rotate_left 1)
  | (apply w_strow; exact rfl; exact rfl; rotate_left 1; exact rfl; exact rfl; exact rfl; exact rfl; simp only [Env.mp, List.map_cons, List.map_nil, List.set_cons_zero, List.set_cons_succ, AV.kill, AV.kill1, AO.kill, AV.noRow, AV.noRow1, AO.via, reduceIte, Nat.reduceEqDiff, Nat.reduceLT, Env.up, Nat.zero_ne_one, Nat.one_ne_zero, Nat.reduceAdd, List.cons_append, List.nil_append]; rotate_left 1)
  | (apply w_sti; exact rfl; exact rfl; rotate_left 1; exact rfl; rotate_left 2)
  | (apply w_stst; iterate 5 exact rfl)
  | (apply w_stbv; iterate 6 exact rfl)
  | (apply w_stbo; exact rfl; exact rfl; exact rfl; exact rfl; exact rfl; exact True.intro)
  | ((apply AOps.splitB; exact rfl; exact rfl) <;> intro h)
  | apply AllOf.nil
  | (apply AllOf.cons; exact rfl)
  | (apply AAny.take; exact rfl; exact rfl; kernel_rfl; kernel_rfl)
  | (apply AAny.all; exact rfl)
  | (apply AAny.done; exact rfl)
  | (apply inI_of <;> omega)
  | omega
  | (simp <;> omega))
  · exact absurd (iota_get k n i (by omega)) (by assumption)
  · exact ⟨i + 1, by omega, by omega, ⟨lee rfl (by (repeat (first | exact le_nil | refine le_eq rfl rfl ?_ | refine le_eq rfl (congrArg AV.i (by omega)) ?_))), by (repeat (first | exact lo_nil | refine lo_dead ?_ | refine lo_eq rfl ?_)), rfl, rfl⟩⟩
  · have e : i = n := by omega
    subst e
    exact .int Try.results17 rfl rfl

end Go.Proofs.Ytifkgmbghcmdeaa
/-
  Marks written into lists of lists. No condition but a bound on the sizes.
-/
namespace Go.Proofs.Ytifkgmbghcmdeaa
open Go Go.RowKit
attribute [local irreducible] AWp AOps ResIs Ret1 QOp LOp COp AFnV AFn Imms LeE LeO
set_option maxHeartbeats 1000000
set_option linter.unusedSimpArgs false
set_option linter.unusedVariables false

/-! ### Marks -/
/-- How many entries the first i rows have. -/
def cnt (xss : List (List Int)) : Nat → Nat
  | 0 => 0
  | i + 1 => cnt xss i + (gets xss i).length
/-- The first i rows marked, from k on. -/
def mrk (xss : List (List Int)) (k : Int) (i : Nat) : List (List Int) := (List.range xss.length).map fun j => if j < i then iota (k + cnt xss j) (gets xss j).length else gets xss j

theorem mrk_len (xss : List (List Int)) (k : Int) (i : Nat) : (mrk xss k i).length = xss.length := by simp [mrk]
theorem mrk_zero (xss : List (List Int)) (k : Int) : mrk xss k 0 = xss := by
  apply List.ext_getElem?
  intro j
  simp only [mrk, List.getElem?_map, Nat.not_lt_zero, if_false]
  by_cases h : j < xss.length
  · simp [h, gets]
  · rw [List.getElem?_eq_none (by simp; omega), List.getElem?_eq_none (by omega)]; rfl
theorem mrk_get (xss : List (List Int)) (k : Int) (i j : Nat) (h : j < xss.length) : (mrk xss k i).getD j [] = if j < i then iota (k + cnt xss j) (gets xss j).length else gets xss j := by
  simp [mrk, List.getD_eq_getElem?_getD, h]
theorem mrk_set (xss : List (List Int)) (k : Int) (i : Nat) (h : i < xss.length) : (mrk xss k i).set i (iota (k + cnt xss i) (gets xss i).length) = mrk xss k (i + 1) := by
  apply List.ext_getElem?
  intro j
  rw [List.getElem?_set, mrk_len]
  by_cases e : i = j
  · subst e
    simp [h, mrk]
  · rw [if_neg e]
    simp only [mrk, List.getElem?_map]
    by_cases h2 : j < xss.length
    · simp only [List.getElem?_range h2, Option.map_some]
      by_cases h3 : j < i
      · rw [if_pos h3, if_pos (by omega)]
      · rw [if_neg h3, if_neg (by omega)]
    · rw [List.getElem?_eq_none (by simp; omega)]
      rfl
theorem cnt_mono (xss : List (List Int)) (i : Nat) : ∀ j, cnt xss i ≤ cnt xss (i + j)
  | 0 => Nat.le_refl _
  | j + 1 => by have := cnt_mono xss i j; rw [← Nat.add_assoc, cnt]; omega

theorem markInt64SS_c (T T2 : TypeId) (xss : List (List Int)) (k : Int) (hq : 0 ≤ k ∧ k ≤ 4503599627370496) (hl : cnt xss xss.length ≤ 4503599627370496) (hx : xss.length ≤ 4503599627370496) :
    AFnU Try.prog 53 [.own 0, .i k] [.sls T T2 xss] (fun v os => v = .int .i64 (k + cnt xss xss.length) ∧ os = [.sls T T2 (mrk xss k xss.length)]) := by
  (refine AFnU.start Try.func53 Try.ntmps53 rfl (by kernel_rfl) fun K => ?_; simp only [Env.start, enumF, List.length_cons, List.length_nil, Nat.reduceAdd, Nat.reduceSub, List.cons_append, List.nil_append])
  repeat' (first | (apply AOps.nil; try simp only [List.nil_append, List.cons_append, List.set_cons_zero, List.set_cons_succ, List.length_cons, List.length_nil, Nat.reduceAdd, AV.sh, AV.sh1, AV.sh0, AO.sh, List.map_cons, List.map_nil, Nat.zero_add, Nat.add_zero, setAll]) | (apply w_assign; exact rfl; exact rfl) | apply AWp.seq | apply AWp.region | apply AWp.block)
  refine AWp.loop (ι := Nat) (fun i => ⟨19, [(0, .own 0), (1, .i (k + cnt xss i)), (5, .i i)]⟩) (fun i => [.sls T T2 (mrk xss k i), .keep 2 K]) (fun i => i ≤ xss.length) (fun i => xss.length - i) 0 (by omega) ⟨lee rfl (by (repeat (first | exact le_nil | refine le_eq rfl rfl ?_ | refine le_eq rfl (congrArg AV.i ((Int.add_zero k).symm)) ?_))), by (repeat (first | exact lo_nil | refine lo_eq rfl ?_ | refine lo_eq (congrArg (AO.sls _ _) ((mrk_zero xss k).symm)) ?_)), rfl, rfl⟩ ?_
  rintro i h0
  have e1 := mrk_len xss k i
  by_cases hi : i < xss.length
  · have c1 : cnt xss i ≤ cnt xss xss.length := by have := cnt_mono xss i (xss.length - i); rwa [show i + (xss.length - i) = xss.length by omega] at this
    have c2 : cnt xss (i + 1) ≤ cnt xss xss.length := by have := cnt_mono xss (i + 1) (xss.length - (i + 1)); rwa [show i + 1 + (xss.length - (i + 1)) = xss.length by omega] at this
    have c3 : cnt xss (i + 1) = cnt xss i + (gets xss i).length := rfl
    have e2 : (mrk xss k i).getD i [] = gets xss i := by rw [mrk_get xss k i i hi, if_neg (by omega)]
    have e2' : (mrk xss k i).getD ((i : Int)).toNat [] = gets xss i := e2
    have hm := markInt64S_c T2 ((mrk xss k i).getD ((i : Int)).toNat []) (k + cnt xss i) (by omega) (by rw [e2']; omega)
    have e3 : (mrk xss k i).set ((i : Int)).toNat (iota (k + cnt xss i) ((mrk xss k i).getD ((i : Int)).toNat []).length) = mrk xss k (i + 1) := by rw [e2']; exact mrk_set xss k i hi
    have e4 : k + (cnt xss i : Int) + (((mrk xss k i).getD ((i : Int)).toNat []).length : Int) = k + (cnt xss (i + 1) : Int) := by rw [e2', c3]; omega
    repeat' (first | (apply AOps.nil; try simp only [List.nil_append, List.cons_append, List.set_cons_zero, List.set_cons_succ, List.length_cons, List.length_nil, Nat.reduceAdd, AV.sh, AV.sh1, AV.sh0, AO.sh, List.map_cons, List.map_nil, Nat.zero_add, Nat.add_zero, setAll]) | (apply w_move; exact rfl; exact rfl) | (apply w_assign; exact rfl; exact rfl) | apply AWp.seq | apply AWp.region | ((apply AWp.condP; exact rfl) <;> intro h) | apply AWp.block | apply AWp.ret | apply AWp.exit | apply AWp.skip | (apply w_len; exact rfl; exact rfl; first | exact .ints _ | exact .intss _ | exact .sli rfl | exact .sls rfl | exact .slr rfl | exact .orow rfl | exact .nil) | (apply w_callrow; exact rfl; exact rfl; exact rfl; exact (hm); (focus (rintro v os0 ⟨rfl, rfl⟩; exact ⟨_, rfl⟩)); rintro v row0 ⟨rfl, hrow0⟩; cases hrow0; try simp only [List.nil_append, List.cons_append, List.set_cons_zero, List.set_cons_succ, List.length_cons, List.length_nil, Nat.reduceAdd, AV.sh, AV.sh1, AV.sh0, AO.sh, List.map_cons, List.map_nil, Nat.zero_add, Nat.add_zero, setAll]) | ((first | apply w_lss | apply w_add | apply w_idx | apply w_ld); iterate 3 exact rfl) | (apply w_idxo; exact rfl; exact rfl; (exact .sls rfl); exact rfl) | (apply w_ldls; iterate 4 exact rfl) | (apply inI_of <;> omega) | omega)
    all_goals exact ⟨i + 1, by omega, by omega, ⟨lee rfl (by (repeat (first | exact le_nil | refine le_eq rfl rfl ?_ | refine le_eq rfl (congrArg AV.i (by omega)) ?_))), by (repeat (first | exact lo_nil | refine lo_eq rfl ?_ | refine lo_eq (congrArg (AO.sls _ _) (e3)) ?_)), rfl, rfl⟩⟩
  · repeat' (first | (apply AOps.nil; try simp only [List.nil_append, List.cons_append, List.set_cons_zero, List.set_cons_succ, List.length_cons, List.length_nil, Nat.reduceAdd, AV.sh, AV.sh1, AV.sh0, AO.sh, List.map_cons, List.map_nil, Nat.zero_add, Nat.add_zero, setAll]) | (apply w_move; exact rfl; exact rfl) | (apply w_assign; exact rfl; exact rfl) | apply AWp.seq | apply AWp.region | ((apply AWp.condP; exact rfl) <;> intro h) | apply AWp.block | apply AWp.ret | apply AWp.exit | apply AWp.skip | (apply w_len; exact rfl; exact rfl; first | exact .ints _ | exact .intss _ | exact .sli rfl | exact .sls rfl | exact .slr rfl | exact .orow rfl | exact .nil) | omega | ((apply w_lss); iterate 3 exact rfl))
    have e : i = xss.length := by omega
    subst e
    exact ⟨_, _, .int Try.results53 rfl rfl, ⟨rfl, rfl⟩, by simp, rfl, by simp [AO.plain]⟩

end Go.Proofs.Ytifkgmbghcmdeaa
/-
  A part of an own slice of numbers is handed to a function that writes to it. No condition.
-/
namespace Go.Proofs.Ytifkgmbghcmdeaa
open Go Go.RowKit
section
variable {P : Program} {env : Env} {os : List AO} {d : Tmp} {ty : TypeId} {pos : String} {af : Array Edge} {l rest : List Oper} {K : APost}
theorem w_callos {f : FuncId} {ats : Array TypeId} {v0 v1 : Value} {h n : Nat} {T : TypeId} {cs cs1 : List Int} {x y : Operand} (hc : AFnU P f [.osub 0 0 n, .val v0] [.sli T cs] (fun v os' => v = v1 ∧ os' = [.sli T cs1])) (hx : evo env x = some (.osub h 0 n)) (hs : os[h]? = some (.sli T cs)) (hy : evo env y = some (.val v0))
    (h' : AOps P .seq l rest K (env.up d (.val v1)) (os.set h (.sli T cs1))) :
    AOps P .seq l (⟨some d, .call { callee := .value (.func f), args := #[x, y], argTypes := ats }, ty, pos, af, none⟩ :: rest) K env os := by
  refine AOps.ca (Q := fun r en o => r = .val v1 ∧ en = env ∧ o = os.set h (.sli T cs1)) ?_ fun r en o ⟨h1, h2, h3⟩ => by subst h1; subst h2; subst h3; exact h'
  intro base w gs tm hr
  have hev := hr.ev x
  rw [ev_of hx] at hev
  generalize hv : Act.eval ⟨tm, []⟩ x = u at hev
  cases hev with
  | @osub _ _ _ cap p gh hg hp hc1 hm =>
    have hob := hr.ho _ _ _ hg hs
    have one : ∀ {k : Nat} {g : Gh}, [gh][k]? = some g → k = 0 ∧ g = gh := by
      intro k g hk
      have := (List.getElem?_eq_some_iff.1 hk).1
      simp at this
      subst this
      simp at hk
      exact ⟨rfl, hk.symm⟩
    have hO : Objs base w [gh] [.sli T cs] := by
      refine ⟨rfl, fun o ho => by simp at ho; subst ho; trivial, ?_, ?_, ?_⟩
      · intro k g o hk ho
        obtain ⟨rfl, rfl⟩ := one hk
        simp at ho
        subst ho
        exact hob
      · intro k m g g' hkm hk hm
        obtain ⟨rfl, _⟩ := one hk
        obtain ⟨rfl, _⟩ := one hm
        exact absurd rfl hkm
      · intro k g hk b hb
        obtain ⟨_, rfl⟩ := one hk
        exact hr.hn _ _ _ hg hs (by simp) b hb
    refine ⟨f, _, run_call hc.1 [x, y] ats _ rfl w, (hc.2 base w [gh] _ hr.hb hO (by simp) fun k => ?_).mono ?_⟩
    · match k with
      | 0 =>
        have : RV w (okOf [gh] [.sli T cs]) [gh] (.slice p n cap) (.osub 0 0 n) := RV.osub (g := gh) (by simp) hp hc1 hm
        simpa [hv] using this
      | 1 =>
        have hyv := hr.evv (ev_of hy)
        have : RV w (okOf [gh] [.sli T cs]) [gh] (Act.eval ⟨tm, []⟩ y) (.val v0) := by rw [hyv]; exact .val _
        simpa using this
      | k + 2 => exact .any _
    · rintro en w' ⟨v, os', rfl, ⟨rfl, rfl⟩, hO', hbel, hw⟩
      have hother : ∀ c, c < w.heap.size → c ∉ gh.bl → w'.heap[c]? = w.heap[c]? := fun c hc hn => hw c hc fun k g hk => by
        obtain ⟨_, rfl⟩ := one hk
        exact hn
      exact ⟨v, .val v, env, os.set h (.sli T cs1), gs, rfl, ⟨rfl, rfl, rfl⟩, hr.upd hg hs trivial _ trivial hother hbel.size (fun _ => hO'.ho 0 gh (.sli T cs1) (by simp) (by simp)), .val v, hbel⟩
end
end Go.Proofs.Ytifkgmbghcmdeaa
/-
  Marks written into lists of polynomials and into parts of slices. No condition but a bound on the sizes.
-/
namespace Go.Proofs.Ytifkgmbghcmdeaa
open Go Go.RowKit
attribute [local irreducible] AWp AOps ResIs Ret1 QOp LOp COp AFnV AFn Imms LeE LeO
set_option maxHeartbeats 1000000
set_option linter.unusedSimpArgs false
set_option linter.unusedVariables false

/-! ### How many entries there are -/
def csum : List (List Int) → Nat
  | [] => 0
  | xs :: r => xs.length + csum r
def psum : Pls → Nat
  | [] => 0
  | f :: r => csum f + psum r
theorem csum_app : ∀ (a b : List (List Int)), csum (a ++ b) = csum a + csum b
  | [], b => by simp [csum]
  | x :: a, b => by simp [csum, csum_app a b, Nat.add_assoc]
theorem psum_app : ∀ (a b : Pls), psum (a ++ b) = psum a + psum b
  | [], b => by simp [psum]
  | x :: a, b => by simp [psum, psum_app a b, Nat.add_assoc]
theorem cnt_csum (f : List (List Int)) : ∀ i, i ≤ f.length → cnt f i = csum (f.take i)
  | 0, _ => by simp [cnt, csum]
  | i + 1, h => by
    rw [cnt, cnt_csum f i (by omega), List.take_succ_eq_append_getElem (by omega), csum_app]
    simp [csum, gets, show i < f.length by omega]
theorem cnt_all (f : List (List Int)) : cnt f f.length = csum f := by rw [cnt_csum f _ (Nat.le_refl _), List.take_length]
theorem szI_eq {xs : List Int} {l : Int} (h : 0 ≤ szI xs l) : szI xs l = l - xs.length := by unfold szI at h ⊢; split <;> simp_all
theorem szR_cnt : ∀ (f : List (List Int)) (l : Int), 0 ≤ szR f l → szR f l = l - csum f
  | [], l, _ => by simp [szR, csum]
  | xs :: r, l, h => by
    simp only [szR] at h ⊢
    by_cases e : szI xs l < 0
    · rw [if_pos e] at h; omega
    · rw [if_neg e] at h ⊢
      rw [szR_cnt r _ h, szI_eq (by omega), csum]
      omega
theorem szSS_cnt {f : List (List Int)} {l : Int} (h : 0 ≤ szSS f l) : szSS f l + csum f ≤ l := by
  unfold szSS at h ⊢
  split
  · rename_i h1; rw [if_pos h1] at h; omega
  · rename_i h1
    rw [if_neg h1] at h
    rw [szR_cnt f _ h]
    omega
theorem szPF_cnt : ∀ (fs : Pls) (l : Int), 0 ≤ szPF fs l → szPF fs l + psum fs ≤ l
  | [], l, _ => by simp [szPF, psum]
  | f :: r, l, h => by
    simp only [szPF] at h ⊢
    by_cases e : szSS f l < 0
    · rw [if_pos e] at h; omega
    · rw [if_neg e] at h ⊢
      have h1 := szSS_cnt (f := f) (l := l) (by omega)
      have h2 := szPF_cnt r _ h
      rw [psum]
      omega
theorem szPs_cnt {fs : Pls} {left : Int} (h : 0 ≤ szPs fs left) : (psum fs : Int) ≤ left := by
  unfold szPs at h
  split at h
  · omega
  · have := szPF_cnt fs _ h
    omega
theorem psum_step {F : Pls} {i : Nat} (h : i < F.length) : psum (F.take (i + 1)) = psum (F.take i) + csum (F.getD i []) := by
  rw [List.take_succ_eq_append_getElem h, psum_app]
  simp [psum, List.getD_eq_getElem?_getD, h]
theorem psum_le (F : Pls) (i : Nat) : psum (F.take i) ≤ psum F := by
  have := psum_app (F.take i) (F.drop i)
  rw [List.take_append_drop] at this
  omega
theorem csum_le {F : Pls} {i : Nat} (h : i < F.length) : csum (F.getD i []) ≤ psum F := by
  have := psum_step h
  have := psum_le F (i + 1)
  omega

theorem markPolyS_c (F : Pls) (k : Int) (hq : 0 ≤ k ∧ k ≤ 1048576) (hl : psum F ≤ 1048576) (hF : ∀ f ∈ F, f.length ≤ 1048576) (hn : F.length ≤ 1048576) :
    AFnU Try.prog 23 [.own 0, .i k] [.ob (plsOb 50 22 2 F)] (fun v os => v = .int .i64 (k + psum F) ∧ ∃ F', os = [.ob (plsOb 50 22 2 F')]) := by
  (refine AFnU.start Try.func23 Try.ntmps23 rfl (by kernel_rfl) fun K => ?_; simp only [Env.start, enumF, List.length_cons, List.length_nil, Nat.reduceAdd, Nat.reduceSub, List.cons_append, List.nil_append])
  repeat' (first | (apply AOps.nil; try simp only [List.nil_append, List.cons_append, List.set_cons_zero, List.set_cons_succ, List.length_cons, List.length_nil, Nat.reduceAdd, AV.sh, AV.sh1, AV.sh0, AO.sh, List.map_cons, List.map_nil, Nat.zero_add, Nat.add_zero, setAll]) | (apply w_assign; exact rfl; exact rfl) | apply AWp.seq | apply AWp.region | apply AWp.block)
  refine AWp.loop (ι := Nat × Pls) (fun s => ⟨20, [(0, .own 0), (1, .i (k + psum (F.take s.1))), (5, .i s.1)]⟩) (fun s => [.ob (plsOb 50 22 2 s.2), .keep 2 K]) (fun s => s.1 ≤ F.length ∧ s.2.length = F.length ∧ ∀ j, s.1 ≤ j → s.2.getD j [] = F.getD j []) (fun s => F.length - s.1) (0, F) ⟨by simp, rfl, fun j hj => rfl⟩ ⟨lee rfl (by (repeat (first | exact le_nil | refine le_eq rfl rfl ?_ | refine le_eq rfl (congrArg AV.i ((Int.add_zero k).symm)) ?_))), by (repeat (first | exact lo_nil | refine lo_eq rfl ?_)), rfl, rfl⟩ ?_
  rintro ⟨i, G⟩ ⟨h0, h1, h2⟩
  simp only at h0 h1 h2
  have hp := psum_le F i
  by_cases hi : i < F.length
  · have e1 : G.getD ((i : Int)).toNat [] = F.getD i [] := h2 i (Nat.le_refl _)
    have c0 := cnt_all (F.getD i [])
    have c1 := csum_le hi
    have c2 := psum_step hi
    have c3 := psum_le F (i + 1)
    have c4 := hF _ (pl_mem hi)
    have hm := markInt64SS_c 22 2 (G.getD ((i : Int)).toNat []) (k + psum (F.take i)) (by omega) (by rw [e1]; omega) (by rw [e1]; omega)
    have e4 : k + (psum (F.take i) : Int) + (cnt (G.getD ((i : Int)).toNat []) (G.getD ((i : Int)).toNat []).length : Int) = k + (psum (F.take (i + 1)) : Int) := by rw [e1, c0, c2]; omega
    repeat' (first | (apply AOps.nil; try simp only [List.nil_append, List.cons_append, List.set_cons_zero, List.set_cons_succ, List.length_cons, List.length_nil, Nat.reduceAdd, AV.sh, AV.sh1, AV.sh0, AO.sh, List.map_cons, List.map_nil, Nat.zero_add, Nat.add_zero, setAll]) | (apply w_move; exact rfl; exact rfl) | (apply w_assign; exact rfl; exact rfl) | apply AWp.seq | apply AWp.region | ((apply AWp.condP; exact rfl) <;> intro h) | apply AWp.block | apply AWp.ret | apply AWp.exit | apply AWp.skip | (apply w_lenpl; iterate 3 exact rfl) | (apply w_idxpl; iterate 4 exact rfl) | ((apply w_fapl); iterate 3 exact rfl) | (apply w_ldpl; iterate 4 exact rfl) | (apply w_callpl1 (hm); exact rfl; exact rfl; exact rfl) | omega | ((first | apply w_lss | apply w_add); iterate 3 exact rfl) | (apply inI_of <;> omega))
    refine ⟨(i + 1, G.set ((i : Int)).toNat (mrk (G.getD ((i : Int)).toNat []) (k + psum (F.take i)) (G.getD ((i : Int)).toNat []).length)), ⟨hi, by simpa using h1, fun j hj => ?_⟩, by simp only; omega, ⟨lee rfl (by (repeat (first | exact le_nil | refine le_eq rfl rfl ?_ | refine le_eq rfl (congrArg AV.i (by omega)) ?_))), by (repeat (first | exact lo_nil | refine lo_eq rfl ?_)), rfl, rfl⟩⟩
    rw [getD_put _ _ _ _ _ (by omega), if_neg (by simp only at hj; omega)]
    exact h2 j (by simp only at hj; omega)
  · repeat' (first | (apply AOps.nil; try simp only [List.nil_append, List.cons_append, List.set_cons_zero, List.set_cons_succ, List.length_cons, List.length_nil, Nat.reduceAdd, AV.sh, AV.sh1, AV.sh0, AO.sh, List.map_cons, List.map_nil, Nat.zero_add, Nat.add_zero, setAll]) | (apply w_move; exact rfl; exact rfl) | (apply w_assign; exact rfl; exact rfl) | apply AWp.seq | apply AWp.region | ((apply AWp.condP; exact rfl) <;> intro h) | apply AWp.block | apply AWp.ret | apply AWp.exit | apply AWp.skip | (apply w_lenpl; iterate 3 exact rfl) | (apply w_idxpl; iterate 4 exact rfl) | ((apply w_fapl); iterate 3 exact rfl) | (apply w_ldpl; iterate 4 exact rfl) | omega | ((apply w_lss); iterate 3 exact rfl))
    have e : i = F.length := by omega
    subst e
    exact ⟨_, _, .int Try.results23 rfl rfl, ⟨by rw [List.take_length], _, rfl⟩, rfl, rfl, by simp [AO.plain]⟩

theorem markOs_c (T : TypeId) (cs : List Int) (d : Nat) (hd : d ≤ cs.length) (k : Int) (hq : 0 ≤ k ∧ k ≤ 9007199254740992) (hl : d ≤ 9007199254740992) : AFnU Try.prog 16 [.osub 0 0 d, .i k] [.sli T cs] (fun v os => v = .int .i64 (k + d) ∧ os = [.sli T (iota k d ++ cs.drop d)]) := by
  (refine AFnU.start Try.func16 Try.ntmps16 rfl (by kernel_rfl) fun K => ?_; simp only [Env.start, enumF, List.length_cons, List.length_nil, Nat.reduceAdd, Nat.reduceSub, List.cons_append, List.nil_append])
  repeat' (first | (apply AOps.nil; try simp only [List.nil_append, List.cons_append, List.set_cons_zero, List.set_cons_succ, List.length_cons, List.length_nil, Nat.reduceAdd, AV.sh, AV.sh1, AV.sh0, AO.sh, List.map_cons, List.map_nil, Nat.zero_add, Nat.add_zero, setAll]) | (apply w_assign; exact rfl; exact rfl) | apply AWp.seq | apply AWp.region | apply AWp.block)
  refine AWp.loop (ι := Nat) (fun i => ⟨19, [(0, .osub 0 0 d), (1, .i (k + i)), (5, .i i)]⟩) (fun i => [.sli T (iota k i ++ cs.drop i), .keep 2 K]) (fun i => i ≤ d) (fun i => d - i) 0 (by omega) ⟨lee rfl (le_eq rfl rfl (le_eq rfl (congrArg AV.i (by omega)) (le_eq rfl rfl le_nil))), lo_eq (by simp [iota]) (lo_eq rfl lo_nil), rfl, rfl⟩ ?_
  rintro i h0
  have e1 : (iota k i ++ cs.drop i).length = cs.length := by simp [iota_len]; omega
  by_cases hi : i < d
  · repeat' (first | (apply AOps.nil; try simp only [List.nil_append, List.cons_append, List.set_cons_zero, List.set_cons_succ, List.length_cons, List.length_nil, Nat.reduceAdd, AV.sh, AV.sh1, AV.sh0, AO.sh, List.map_cons, List.map_nil, Nat.zero_add, Nat.add_zero, setAll]) | (apply w_move; exact rfl; exact rfl) | (apply w_assign; exact rfl; exact rfl) | apply AWp.seq | apply AWp.region | ((apply AWp.condP; exact rfl) <;> intro h) | apply AWp.block | apply AWp.ret | apply AWp.exit | apply AWp.skip | ((apply w_lenos); iterate 2 exact rfl) | (apply w_idxos; iterate 3 exact rfl) | omega | ((first | apply w_lss | apply w_add); iterate 3 exact rfl) | (apply w_sti; exact rfl; exact rfl; rotate_left 1; exact rfl; rotate_left 2) | (apply inI_of <;> omega))
    have e2 : (iota k i ++ cs.drop i).set ((i : Int)).toNat (k + i) = iota k (i + 1) ++ cs.drop (i + 1) := by exact mark_step k cs i (by omega)
    exact ⟨i + 1, by omega, by omega, ⟨lee rfl (by (repeat (first | exact le_nil | refine le_eq rfl rfl ?_ | refine le_eq rfl (congrArg AV.i (by omega)) ?_))), by (repeat (first | exact lo_nil | refine lo_eq rfl ?_ | refine lo_eq (congrArg (AO.sli _) (e2)) ?_)), rfl, rfl⟩⟩
  · repeat' (first | (apply AOps.nil; try simp only [List.nil_append, List.cons_append, List.set_cons_zero, List.set_cons_succ, List.length_cons, List.length_nil, Nat.reduceAdd, AV.sh, AV.sh1, AV.sh0, AO.sh, List.map_cons, List.map_nil, Nat.zero_add, Nat.add_zero, setAll]) | (apply w_move; exact rfl; exact rfl) | (apply w_assign; exact rfl; exact rfl) | apply AWp.seq | apply AWp.region | ((apply AWp.condP; exact rfl) <;> intro h) | apply AWp.block | apply AWp.ret | apply AWp.exit | apply AWp.skip | ((apply w_lenos); iterate 2 exact rfl) | (apply w_idxos; iterate 3 exact rfl) | omega | ((apply w_lss); iterate 3 exact rfl))
    have e : i = d := by omega
    subst e
    exact ⟨_, _, .int Try.results16 rfl rfl, ⟨rfl, rfl⟩, rfl, rfl, by simp [AO.plain]⟩
theorem markNil_c (k : Int) : AFnV Try.prog 16 [.ints [], .i k] (.int .i64 k) := by
  (refine AFnV.start Try.func16 Try.ntmps16 rfl (by kernel_rfl) fun hk => ?_; simp only [Env.start, enumF, List.length_cons, List.length_nil, Nat.reduceAdd, Nat.reduceSub, List.cons_append, List.nil_append])
  repeat' (first | (apply AOps.nil; try simp only [List.nil_append, List.cons_append, List.set_cons_zero, List.set_cons_succ, List.length_cons, List.length_nil, Nat.reduceAdd, AV.sh, AV.sh1, AV.sh0, AO.sh, List.map_cons, List.map_nil, Nat.zero_add, Nat.add_zero, setAll]) | (apply w_assign; exact rfl; exact rfl) | apply AWp.seq | apply AWp.region | apply AWp.block)
  refine AWp.loop (ι := Unit) (fun i => ⟨19, [(0, .ints []), (1, .i k), (5, .i 0)]⟩) (fun i => []) (fun i => True) (fun i => 0) () trivial ⟨lee rfl (by (repeat (first | exact le_nil | refine le_eq rfl rfl ?_))), by (repeat (exact lo_nil)), rfl, rfl⟩ ?_
  rintro i h0
  repeat' (first | (apply AOps.nil; try simp only [List.nil_append, List.cons_append, List.set_cons_zero, List.set_cons_succ, List.length_cons, List.length_nil, Nat.reduceAdd, AV.sh, AV.sh1, AV.sh0, AO.sh, List.map_cons, List.map_nil, Nat.zero_add, Nat.add_zero, setAll]) | (apply w_move; exact rfl; exact rfl) | (apply w_assign; exact rfl; exact rfl) | apply AWp.seq | apply AWp.region | ((apply AWp.condP; exact rfl) <;> intro h) | apply AWp.block | apply AWp.ret | apply AWp.exit | apply AWp.skip | (apply w_len; exact rfl; exact rfl; first | exact .ints _ | exact .intss _ | exact .sli rfl | exact .sls rfl | exact .slr rfl | exact .orow rfl | exact .nil) | omega | ((apply w_lss); iterate 3 exact rfl))
  all_goals exact .int Try.results16 rfl rfl
end Go.Proofs.Ytifkgmbghcmdeaa
/-
  The law of the local counts. No condition.
-/
namespace Go.Proofs.Ytifkgmbghcmdeaa
open Go Go.RowKit
attribute [local irreducible] AWp AOps ResIs Ret1 QOp LOp COp AFnV AFn Imms LeE LeO
set_option maxHeartbeats 1000000
set_option linter.unusedSimpArgs false
set_option linter.unusedVariables false

theorem eqI_t {xs ys : List Int} (h : xs = ys) : AFnV Try.prog 13 [.ints xs, .ints ys] (.bool true) := by
  have := eqInt64S_c xs ys
  rw [decide_eq_true h] at this
  exact this
set_option maxHeartbeats 4000000 in
theorem lawLocalCounts_c (fs : List (List (List Int))) (hm : fs.length ≤ maxLen) : AFnV Try.prog 4 [.ro (polsRo fs)] (.bool true) := by
  (refine AFnV.start Try.func4 Try.ntmps4 rfl (by kernel_rfl) fun hk => ?_; simp only [Env.start, enumF, List.length_cons, List.length_nil, Nat.reduceAdd, Nat.reduceSub, List.cons_append, List.nil_append])
  repeat' (first | (apply AOps.nil; try simp only [List.nil_append, List.cons_append, List.set_cons_zero, List.set_cons_succ, List.length_cons, List.length_nil, Nat.reduceAdd, AV.sh, AV.sh1, AV.sh0, AO.sh, List.map_cons, List.map_nil, Nat.zero_add, Nat.add_zero, setAll]) | (apply w_move; exact rfl; exact rfl) | (apply w_assign; exact rfl; exact rfl) | apply AWp.seq | apply AWp.region | ((apply AWp.condP; exact rfl) <;> intro h) | apply AWp.ret | apply AWp.skip | ((apply w_lss); iterate 3 exact rfl) | (apply w_call (szPolyS_c fs hm 1048576 (by omega) (by omega)); exact rfl; exact rfl; focus ((repeat (first | exact im_nil | refine im_cons rfl (.ro _) ?_ | refine im_cons rfl (.val _) ?_)); done)))
  · exact .bool Try.results4 rfl rfl
  have hs := szPs_ok (fs := fs) (left := 1048576) (by omega) (by omega)
  have hct := szPs_cnt (fs := fs) (left := 1048576) (by omega)
  have hn : fs.length ≤ 1048576 := by omega
  have hr : ∀ f ∈ fs, f.length ≤ 1048576 ∧ ∀ xs ∈ f, xs.length ≤ 1048576 := fun f hf => by
    have := hs.2 f hf
    exact ⟨by omega, fun xs hx => by have := this.2 xs hx; omega⟩
  have hc := implLocalCounts_c fs hn
  have mp := markPolyS_c fs 1 (by omega) (by omega) (fun f hf => (hr f hf).1) hn
  obtain ⟨hl, ha⟩ := lcs_at fs
  by_cases h0 : lcsE fs = 0
  · have hsp := specLocalCounts_c fs hn
    rw [h0] at hc hsp
    rw [isPC_0] at hc
    repeat' (first | (apply AOps.nil; try simp only [List.nil_append, List.cons_append, List.set_cons_zero, List.set_cons_succ, List.length_cons, List.length_nil, Nat.reduceAdd, AV.sh, AV.sh1, AV.sh0, AO.sh, List.map_cons, List.map_nil, Nat.zero_add, Nat.add_zero, setAll]) | (apply w_move; exact rfl; exact rfl) | (apply w_assign; exact rfl; exact rfl) | apply AWp.seq | apply AWp.region | (apply w_callm (hsp); (focus ((repeat (first | exact im_nil | refine im_cons rfl (.sem [_] (reads_pls rfl)) ?_)); done)); rintro r os0 ⟨rfl, rfl⟩; try simp only [List.nil_append, List.cons_append, List.set_cons_zero, List.set_cons_succ, List.length_cons, List.length_nil, Nat.reduceAdd, AV.sh, AV.sh1, AV.sh0, AO.sh, List.map_cons, List.map_nil, Nat.zero_add, Nat.add_zero, setAll]) | (apply w_callm (hc); (focus ((repeat (first | exact im_nil | refine im_cons rfl (.sem [_] (reads_pls rfl)) ?_)); done)); rintro r os0 ⟨cs, dd, hd1, hd2, rfl, rfl⟩; try simp only [List.nil_append, List.cons_append, List.set_cons_zero, List.set_cons_succ, List.length_cons, List.length_nil, Nat.reduceAdd, AV.sh, AV.sh1, AV.sh0, AO.sh, List.map_cons, List.map_nil, Nat.zero_add, Nat.add_zero, setAll]) | (apply w_callm (toPolyS_c fs hn hr); (focus ((repeat (first | exact im_nil | refine im_cons rfl (.ro _) ?_)); done)); rintro r os0 ⟨rfl, rfl⟩; try simp only [List.nil_append, List.cons_append, List.set_cons_zero, List.set_cons_succ, List.length_cons, List.length_nil, Nat.reduceAdd, AV.sh, AV.sh1, AV.sh0, AO.sh, List.map_cons, List.map_nil, Nat.zero_add, Nat.add_zero, setAll]) | ((apply w_ext); iterate 3 exact rfl))
    have hdl : dd = (lcsL fs).length := by rw [← hd2]; simp; omega
    have q1 := eqI_t hd2
    have q2 := markOs_c 2 cs dd hd1 1 (by omega) (by omega)
    have q3 := heldInt64S_c dd 1 (by omega) (by omega)
    have e3 : iota 1 dd = ((iota 1 dd ++ cs.drop dd).drop 0).take dd := by
      rw [List.drop_zero, List.take_append_of_le_length (by rw [iota_len]; omega), List.take_of_length_le (by rw [iota_len]; omega)]
    rw [e3] at q3
    have hil := iota_len 1 dd
    repeat' (first | (apply AOps.nil; try simp only [List.nil_append, List.cons_append, List.set_cons_zero, List.set_cons_succ, List.length_cons, List.length_nil, Nat.reduceAdd, AV.sh, AV.sh1, AV.sh0, AO.sh, List.map_cons, List.map_nil, Nat.zero_add, Nat.add_zero, setAll]) | ((apply AOps.splitP; exact rfl; exact rfl) <;> intro h) | (apply w_move; exact rfl; exact rfl) | (apply w_assign; exact rfl; exact rfl) | apply AWp.seq | apply AWp.region | ((apply AWp.condP; exact rfl) <;> intro h) | (apply AWp.condT; exact rfl) | (apply AWp.condF; exact rfl) | apply AWp.ret | apply AWp.skip | (apply w_skip; exact rfl) | (apply w_pickT; exact rfl; exact rfl; exact rfl) | (apply w_pickF; exact rfl; exact rfl; exact rfl) | (apply w_call (q1); exact rfl; exact rfl; focus ((repeat (first | exact im_nil | refine im_cons rfl (.sli rfl) ?_ | refine im_cons rfl (.osub rfl (by simp; omega)) ?_)); done)) | (apply w_call (eqPolyS_t fs hn); exact rfl; exact rfl; focus ((repeat (first | exact im_nil | refine im_cons rfl (.sem [_] (reads_pls rfl)) ?_)); done)) | (apply w_callm (toPolyS_c fs hn hr); (focus ((repeat (first | exact im_nil | refine im_cons rfl (.ro _) ?_)); done)); rintro r os0 ⟨rfl, rfl⟩; try simp only [List.nil_append, List.cons_append, List.set_cons_zero, List.set_cons_succ, List.length_cons, List.length_nil, Nat.reduceAdd, AV.sh, AV.sh1, AV.sh0, AO.sh, List.map_cons, List.map_nil, Nat.zero_add, Nat.add_zero, setAll]) | (apply w_callu [2] (mp); (exact handed1 rfl True.intro); (focus ((repeat (first | exact imu_nil | refine imu_cons rfl (.val _) ?_ | refine imu_cons rfl (.own rfl) ?_)); done)); rintro v os0 ⟨rfl, F2, rfl⟩; try simp only [List.nil_append, List.cons_append, List.set_cons_zero, List.set_cons_succ, List.length_cons, List.length_nil, Nat.reduceAdd, AV.sh, AV.sh1, AV.sh0, AO.sh, List.map_cons, List.map_nil, Nat.zero_add, Nat.add_zero, setAll]) | (apply w_callos (q2); exact rfl; exact rfl; exact rfl) | (apply w_call (q3); exact rfl; exact rfl; focus ((repeat (first | exact im_nil | refine im_cons rfl (.val _) ?_ | refine im_cons rfl (.osub rfl (by simp; omega)) ?_)); done)) | omega | ((first | apply w_lss | apply w_neq); iterate 3 exact rfl) | ((apply w_not); iterate 2 exact rfl))
    repeat' (first | (apply AOps.nil; try simp only [List.nil_append, List.cons_append, List.set_cons_zero, List.set_cons_succ, List.length_cons, List.length_nil, Nat.reduceAdd, AV.sh, AV.sh1, AV.sh0, AO.sh, List.map_cons, List.map_nil, Nat.zero_add, Nat.add_zero, setAll]) | (apply w_move; exact rfl; exact rfl) | (apply w_assign; exact rfl; exact rfl) | apply AWp.seq | apply AWp.region | (apply w_callm (hc); (focus ((repeat (first | exact im_nil | refine im_cons rfl (.sem [_] (reads_pls rfl)) ?_)); done)); rintro r os0 ⟨cs2, dd2, hd3, hd4, rfl, rfl⟩; try simp only [List.nil_append, List.cons_append, List.set_cons_zero, List.set_cons_succ, List.length_cons, List.length_nil, Nat.reduceAdd, AV.sh, AV.sh1, AV.sh0, AO.sh, List.map_cons, List.map_nil, Nat.zero_add, Nat.add_zero, setAll]) | ((apply w_ext); iterate 3 exact rfl))
    have q4 := eqI_t hd4
    repeat' (first | (apply AOps.nil; try simp only [List.nil_append, List.cons_append, List.set_cons_zero, List.set_cons_succ, List.length_cons, List.length_nil, Nat.reduceAdd, AV.sh, AV.sh1, AV.sh0, AO.sh, List.map_cons, List.map_nil, Nat.zero_add, Nat.add_zero, setAll]) | (apply w_move; exact rfl; exact rfl) | (apply w_assign; exact rfl; exact rfl) | apply AWp.seq | apply AWp.region | ((apply AWp.condP; exact rfl) <;> intro h) | apply AWp.ret | apply AWp.skip | (apply w_pickF; exact rfl; exact rfl; exact rfl) | (apply w_call (q4); exact rfl; exact rfl; focus ((repeat (first | exact im_nil | refine im_cons rfl (.sli rfl) ?_ | refine im_cons rfl (.osub rfl (by simp; omega)) ?_)); done)) | (apply w_call (q3); exact rfl; exact rfl; focus ((repeat (first | exact im_nil | refine im_cons rfl (.val _) ?_ | refine im_cons rfl (.osub rfl (by simp; omega)) ?_)); done)) | omega | ((first | apply w_lss | apply w_neq); iterate 3 exact rfl) | ((apply w_not); iterate 2 exact rfl))
    all_goals exact .bool Try.results4 rfl rfl
  · have hsp := specLocalCounts_c fs hn
    have hE := lcsE_in fs
    rw [isPC_n h0] at hc
    rw [lcs_key h0] at hsp
    have q1 := eqI_t (xs := []) (ys := []) rfl
    have q2 := markNil_c 1
    have q3 := heldInt64S_c 0 1 (by omega) (by omega)
    rw [show iota 1 0 = [] from rfl] at q3
    repeat' (first | (apply AOps.nil; try simp only [List.nil_append, List.cons_append, List.set_cons_zero, List.set_cons_succ, List.length_cons, List.length_nil, Nat.reduceAdd, AV.sh, AV.sh1, AV.sh0, AO.sh, List.map_cons, List.map_nil, Nat.zero_add, Nat.add_zero, setAll]) | ((apply AOps.splitP; exact rfl; exact rfl) <;> intro h) | (apply w_move; exact rfl; exact rfl) | (apply w_assign; exact rfl; exact rfl) | apply AWp.seq | apply AWp.region | ((apply AWp.condP; exact rfl) <;> intro h) | (apply AWp.condT; exact rfl) | (apply AWp.condF; exact rfl) | apply AWp.ret | apply AWp.skip | (apply w_skip; exact rfl) | (apply w_pickT; exact rfl; exact rfl; exact rfl) | (apply w_pickF; exact rfl; exact rfl; exact rfl) | (apply w_callm (hsp); (focus ((repeat (first | exact im_nil | refine im_cons rfl (.sem [_] (reads_pls rfl)) ?_)); done)); rintro r os0 ⟨rfl, rfl⟩; try simp only [List.nil_append, List.cons_append, List.set_cons_zero, List.set_cons_succ, List.length_cons, List.length_nil, Nat.reduceAdd, AV.sh, AV.sh1, AV.sh0, AO.sh, List.map_cons, List.map_nil, Nat.zero_add, Nat.add_zero, setAll]) | (apply w_callm (hc); (focus ((repeat (first | exact im_nil | refine im_cons rfl (.sem [_] (reads_pls rfl)) ?_)); done)); rintro r os0 ⟨rfl, rfl⟩; try simp only [List.nil_append, List.cons_append, List.set_cons_zero, List.set_cons_succ, List.length_cons, List.length_nil, Nat.reduceAdd, AV.sh, AV.sh1, AV.sh0, AO.sh, List.map_cons, List.map_nil, Nat.zero_add, Nat.add_zero, setAll]) | (apply w_call (q1); exact rfl; exact rfl; focus ((repeat (first | exact im_nil | refine im_cons rfl (.sli rfl) ?_ | refine im_cons rfl (.nil) ?_)); done)) | (apply w_call (q2); exact rfl; exact rfl; focus ((repeat (first | exact im_nil | refine im_cons rfl (.val _) ?_ | refine im_cons rfl (.nil) ?_)); done)) | (apply w_call (q3); exact rfl; exact rfl; focus ((repeat (first | exact im_nil | refine im_cons rfl (.val _) ?_ | refine im_cons rfl (.nil) ?_)); done)) | (apply w_call (eqPolyS_t fs hn); exact rfl; exact rfl; focus ((repeat (first | exact im_nil | refine im_cons rfl (.sem [_] (reads_pls rfl)) ?_)); done)) | (apply w_callm (toPolyS_c fs hn hr); (focus ((repeat (first | exact im_nil | refine im_cons rfl (.ro _) ?_)); done)); rintro r os0 ⟨rfl, rfl⟩; try simp only [List.nil_append, List.cons_append, List.set_cons_zero, List.set_cons_succ, List.length_cons, List.length_nil, Nat.reduceAdd, AV.sh, AV.sh1, AV.sh0, AO.sh, List.map_cons, List.map_nil, Nat.zero_add, Nat.add_zero, setAll]) | (apply w_callu [2] (mp); (exact handed1 rfl True.intro); (focus ((repeat (first | exact imu_nil | refine imu_cons rfl (.val _) ?_ | refine imu_cons rfl (.own rfl) ?_)); done)); rintro v os0 ⟨rfl, F2, rfl⟩; try simp only [List.nil_append, List.cons_append, List.set_cons_zero, List.set_cons_succ, List.length_cons, List.length_nil, Nat.reduceAdd, AV.sh, AV.sh1, AV.sh0, AO.sh, List.map_cons, List.map_nil, Nat.zero_add, Nat.add_zero, setAll]) | omega | ((first | apply w_lss | apply w_neq | apply w_extv); iterate 3 exact rfl) | ((apply w_ext); iterate 3 exact rfl) | ((apply w_not); iterate 2 exact rfl))
    all_goals exact .bool Try.results4 rfl rfl
end Go.Proofs.Ytifkgmbghcmdeaa
