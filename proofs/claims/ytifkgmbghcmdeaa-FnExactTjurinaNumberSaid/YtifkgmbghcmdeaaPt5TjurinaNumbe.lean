/-
  Parts of the proof, one behind the other: contracts of functions and plain laws. No condition.
-/
import Derived.Shelf.Small.Bits
import Derived.Test.YtifkgmbghcmdeaaProg
import Derived.Test.YtifkgmbghcmdeaaPt4TjurinaNumbe
/-
  Local algebras: local counts and dimensions. No condition.
-/
namespace Go.Proofs.Ytifkgmbghcmdeaa
open Go Go.RowKit
attribute [local irreducible] AWp AOps ResIs Ret1 QOp LOp COp AFnV AFn Imms LeE LeO
set_option maxHeartbeats 1000000
set_option linter.unusedSimpArgs false
set_option linter.unusedVariables false

theorem poO_of {f : List (List Int)} (h : isPo f = true) : PoO f ∧ f.length ≤ 200 := by
  refine ⟨⟨poR_of h, fun k hk => ?_⟩, (isPo_of h).1⟩
  by_cases e : k = 0
  · subst e; exact Int.le_refl _
  · have := po_lt h (i := 0) (j := k) (by omega) hk
    unfold Bef at this
    simp only [show ((0 : Nat) : Int) = 0 from rfl] at this
    omega
/-- The polynomial has a term of a degree of at most d. -/
def lowB (f : List (List Int)) (d : Int) : Bool := decide (0 < f.length ∧ geti (gets f 0) 0 + geti (gets f 0) 1 ≤ d)
theorem hasTerm_c (f : List (List Int)) (hf : isPo f = true) (d : Int) : AFnV Try.prog 51 [.agg [.intss f], .i d] (.bool (lowB f d)) := by
  unfold lowB
  (refine AFnV.start Try.func51 Try.ntmps51 rfl (by kernel_rfl) fun hk => ?_; simp only [Env.start, enumF, List.length_cons, List.length_nil, Nat.reduceAdd, Nat.reduceSub, List.cons_append, List.nil_append])
  by_cases h0 : 0 < f.length
  · obtain ⟨r0, r1, r2, _⟩ := (isPo_of hf).2 0 h0
    simp only [show ((0 : Nat) : Int) = 0 from rfl] at r0 r1 r2
    repeat' (first | (apply AOps.nil; try simp only [List.nil_append, List.cons_append, List.set_cons_zero, List.set_cons_succ, List.length_cons, List.length_nil, Nat.reduceAdd, AV.sh, AV.sh1, AV.sh0, AO.sh, List.map_cons, List.map_nil, Nat.zero_add, Nat.add_zero, setAll]) | ((apply AOps.splitP; exact rfl; exact rfl) <;> intro h) | (apply w_move; exact rfl; exact rfl) | (apply w_assign; exact rfl; exact rfl) | apply AWp.seq | apply AWp.region | apply AWp.ret | (apply AWp.regionQ; kernel_rfl; kernel_rfl) | (apply w_skip; exact rfl) | (apply w_pickT; exact rfl; exact rfl; exact rfl) | (apply w_pickF; exact rfl; exact rfl; exact rfl) | (apply w_len; exact rfl; exact rfl; first | exact .ints _ | exact .intss _ | exact .sli rfl | exact .sls rfl | exact .slr rfl | exact .orow rfl | exact .nil) | omega | ((first | apply w_leq | apply w_gtr | apply w_add | apply w_idx | apply w_ld | apply w_fa); iterate 3 exact rfl) | ((first | apply w_idxs | apply w_lds); iterate 3 exact rfl) | ((apply w_boxa); iterate 2 exact rfl) | (apply w_ldb; iterate 5 exact rfl) | (apply inI_of <;> omega))
    all_goals exact .bool Try.results51 rfl (by simp [h0])
  · repeat' (first | (apply AOps.nil; try simp only [List.nil_append, List.cons_append, List.set_cons_zero, List.set_cons_succ, List.length_cons, List.length_nil, Nat.reduceAdd, AV.sh, AV.sh1, AV.sh0, AO.sh, List.map_cons, List.map_nil, Nat.zero_add, Nat.add_zero, setAll]) | ((apply AOps.splitP; exact rfl; exact rfl) <;> intro h) | (apply w_move; exact rfl; exact rfl) | (apply w_assign; exact rfl; exact rfl) | apply AWp.seq | apply AWp.region | apply AWp.ret | (apply AWp.regionQ; kernel_rfl; kernel_rfl) | (apply w_skip; exact rfl) | (apply w_pickF; exact rfl; exact rfl; exact rfl) | (apply w_len; exact rfl; exact rfl; first | exact .ints _ | exact .intss _ | exact .sli rfl | exact .sls rfl | exact .slr rfl | exact .orow rfl | exact .nil) | omega | ((first | apply w_gtr | apply w_ld | apply w_fa); iterate 3 exact rfl) | ((apply w_boxa); iterate 2 exact rfl) | (apply w_ldb; iterate 5 exact rfl))
    all_goals exact .bool Try.results51 rfl (by simp [h0])
theorem l17Low_c (f : List (List Int)) (hf : isPo f = true) (d : Int) : AFnV Try.prog 48 [.agg [.intss f], .i d] (.bool (lowB f (d - 1))) := by
  unfold lowB
  (refine AFnV.start Try.func48 Try.ntmps48 rfl (by kernel_rfl) fun hk => ?_; simp only [Env.start, enumF, List.length_cons, List.length_nil, Nat.reduceAdd, Nat.reduceSub, List.cons_append, List.nil_append])
  by_cases h0 : 0 < f.length
  · obtain ⟨r0, r1, r2, _⟩ := (isPo_of hf).2 0 h0
    simp only [show ((0 : Nat) : Int) = 0 from rfl] at r0 r1 r2
    repeat' (first | (apply AOps.nil; try simp only [List.nil_append, List.cons_append, List.set_cons_zero, List.set_cons_succ, List.length_cons, List.length_nil, Nat.reduceAdd, AV.sh, AV.sh1, AV.sh0, AO.sh, List.map_cons, List.map_nil, Nat.zero_add, Nat.add_zero, setAll]) | ((apply AOps.splitP; exact rfl; exact rfl) <;> intro h) | (apply w_move; exact rfl; exact rfl) | (apply w_assign; exact rfl; exact rfl) | apply AWp.seq | apply AWp.region | apply AWp.ret | (apply AWp.regionQ; kernel_rfl; kernel_rfl) | (apply w_skip; exact rfl) | (apply w_pickT; exact rfl; exact rfl; exact rfl) | (apply w_pickF; exact rfl; exact rfl; exact rfl) | (apply w_len; exact rfl; exact rfl; first | exact .ints _ | exact .intss _ | exact .sli rfl | exact .sls rfl | exact .slr rfl | exact .orow rfl | exact .nil) | omega | ((first | apply w_lss | apply w_gtr | apply w_add | apply w_idx | apply w_ld | apply w_fa); iterate 3 exact rfl) | ((first | apply w_idxs | apply w_lds); iterate 3 exact rfl) | ((apply w_boxa); iterate 2 exact rfl) | (apply w_ldb; iterate 5 exact rfl) | (apply inI_of <;> omega))
    all_goals exact .bool Try.results48 rfl (by rw [decide_eq_decide]; omega)
  · repeat' (first | (apply AOps.nil; try simp only [List.nil_append, List.cons_append, List.set_cons_zero, List.set_cons_succ, List.length_cons, List.length_nil, Nat.reduceAdd, AV.sh, AV.sh1, AV.sh0, AO.sh, List.map_cons, List.map_nil, Nat.zero_add, Nat.add_zero, setAll]) | ((apply AOps.splitP; exact rfl; exact rfl) <;> intro h) | (apply w_move; exact rfl; exact rfl) | (apply w_assign; exact rfl; exact rfl) | apply AWp.seq | apply AWp.region | apply AWp.ret | (apply AWp.regionQ; kernel_rfl; kernel_rfl) | (apply w_skip; exact rfl) | (apply w_pickF; exact rfl; exact rfl; exact rfl) | (apply w_len; exact rfl; exact rfl; first | exact .ints _ | exact .intss _ | exact .sli rfl | exact .sls rfl | exact .slr rfl | exact .orow rfl | exact .nil) | omega | ((first | apply w_gtr | apply w_ld | apply w_fa); iterate 3 exact rfl) | ((apply w_boxa); iterate 2 exact rfl) | (apply w_ldb; iterate 5 exact rfl))
    all_goals exact .bool Try.results48 rfl (by simp [h0])
theorem arePolys_c (fs : List (List (List Int))) (hn : fs.length ≤ 1048576) : AFnV Try.prog 50 [.ro (polsRo fs)] (.bool (fs.all isPo)) := by
  (refine AFnV.start Try.func50 Try.ntmps50 rfl (by kernel_rfl) fun hk => ?_; simp only [Env.start, enumF, List.length_cons, List.length_nil, Nat.reduceAdd, Nat.reduceSub, List.cons_append, List.nil_append])
  repeat' (first | (apply AOps.nil; try simp only [List.nil_append, List.cons_append, List.set_cons_zero, List.set_cons_succ, List.length_cons, List.length_nil, Nat.reduceAdd, AV.sh, AV.sh1, AV.sh0, AO.sh, List.map_cons, List.map_nil, Nat.zero_add, Nat.add_zero, setAll]) | (apply w_move; exact rfl; exact rfl) | (apply w_assign; exact rfl; exact rfl) | apply AWp.seq | apply AWp.region | apply AWp.block | ((apply w_lenps); iterate 2 exact rfl))
  refine AWp.loop (ι := Nat) (fun n => ⟨15, [(5, .ro (polsRo fs)), (6, .i fs.length), (7, .i n)]⟩) (fun n => []) (fun n => n ≤ fs.length ∧ ∀ j, j < n → isPo (fs.getD j []) = true) (fun n => fs.length - n) 0 ⟨by omega, fun j hj => by omega⟩ ⟨lee rfl (by (repeat (first | exact le_nil | refine le_eq rfl rfl ?_))), by (repeat (exact lo_nil)), rfl, rfl⟩ ?_
  rintro n ⟨h0, h1⟩
  by_cases hn1 : n < fs.length
  · have hq := implIsPoly_c (fs.getD n [])
    have hm : fs.getD n [] ∈ fs := getD_mem hn1
    have hfe2 : fs.getD ((n : Nat) : Int).toNat [] = fs.getD n [] := rfl
    cases hp : isPo (fs.getD n []) with
    | true =>
      rw [hp] at hq
      repeat' (first | (apply AOps.nil; try simp only [List.nil_append, List.cons_append, List.set_cons_zero, List.set_cons_succ, List.length_cons, List.length_nil, Nat.reduceAdd, AV.sh, AV.sh1, AV.sh0, AO.sh, List.map_cons, List.map_nil, Nat.zero_add, Nat.add_zero, setAll]) | (apply w_move; exact rfl; exact rfl) | (apply w_assign; exact rfl; exact rfl) | apply AWp.seq | apply AWp.region | ((apply AWp.condP; exact rfl) <;> intro h) | (apply AWp.condF; exact rfl) | apply AWp.block | apply AWp.ret | apply AWp.exit | apply AWp.skip | ((apply w_alst); iterate 2 exact rfl) | (apply w_idxps; iterate 3 exact rfl) | (apply w_ldps; iterate 3 exact rfl) | (apply w_call (hq); exact rfl; exact rfl; focus ((repeat (first | exact im_nil | refine im_cons rfl (im_agg1 (.intss _)) ?_)); done)) | omega | ((first | apply w_lss | apply w_add); iterate 3 exact rfl) | ((apply w_not); iterate 2 exact rfl) | (apply w_ldst; iterate 5 exact rfl) | (apply w_stst; iterate 5 exact rfl) | (apply inI_of <;> omega))
      refine ⟨n + 1, ⟨hn1, fun j hj => ?_⟩, by omega, ⟨lee rfl (by (repeat (first | exact le_nil | refine le_eq rfl rfl ?_))), by (repeat (exact lo_nil)), rfl, rfl⟩⟩
      by_cases e : j = n
      · subst e; exact hp
      · exact h1 j (by omega)
    | false =>
      rw [hp] at hq
      repeat' (first | (apply AOps.nil; try simp only [List.nil_append, List.cons_append, List.set_cons_zero, List.set_cons_succ, List.length_cons, List.length_nil, Nat.reduceAdd, AV.sh, AV.sh1, AV.sh0, AO.sh, List.map_cons, List.map_nil, Nat.zero_add, Nat.add_zero, setAll]) | (apply w_assign; exact rfl; exact rfl) | apply AWp.seq | apply AWp.region | ((apply AWp.condP; exact rfl) <;> intro h) | (apply AWp.condT; exact rfl) | apply AWp.block | apply AWp.ret | apply AWp.exit | apply AWp.skip | ((apply w_alst); iterate 2 exact rfl) | (apply w_idxps; iterate 3 exact rfl) | (apply w_ldps; iterate 3 exact rfl) | (apply w_call (hq); exact rfl; exact rfl; focus ((repeat (first | exact im_nil | refine im_cons rfl (im_agg1 (.intss _)) ?_)); done)) | omega | ((apply w_lss); iterate 3 exact rfl) | ((apply w_not); iterate 2 exact rfl) | (apply w_ldst; iterate 5 exact rfl) | (apply w_stst; iterate 5 exact rfl))
      exact .bool Try.results50 rfl (by
        symm
        rw [List.all_eq_false]
        exact ⟨_, hm, by rw [hp]; decide⟩)
  · have e : n = fs.length := by omega
    subst e
    repeat' (first | (apply AOps.nil; try simp only [List.nil_append, List.cons_append, List.set_cons_zero, List.set_cons_succ, List.length_cons, List.length_nil, Nat.reduceAdd, AV.sh, AV.sh1, AV.sh0, AO.sh, List.map_cons, List.map_nil, Nat.zero_add, Nat.add_zero, setAll]) | (apply w_assign; exact rfl; exact rfl) | apply AWp.seq | apply AWp.region | ((apply AWp.condP; exact rfl) <;> intro h) | apply AWp.block | apply AWp.ret | apply AWp.exit | apply AWp.skip | ((apply w_alst); iterate 2 exact rfl) | (apply w_idxps; iterate 3 exact rfl) | (apply w_ldps; iterate 3 exact rfl) | omega | ((apply w_lss); iterate 3 exact rfl))
    exact .bool Try.results50 rfl (by
      symm
      rw [List.all_eq_true]
      intro f hf
      obtain ⟨j, hj, rfl⟩ := List.getElem_of_mem hf
      have := h1 j hj
      rwa [List.getD_eq_getElem?_getD, List.getElem?_eq_getElem hj] at this)

/-- The sum of the first n numbers. -/
def sumP (xs : List Int) : Nat → Int
  | 0 => 0
  | n + 1 => sumP xs n + geti xs (n : Nat)
theorem sumP_le {xs : List Int} (h : ∀ i : Nat, i < xs.length → 0 ≤ geti xs (i : Nat) ∧ geti xs (i : Nat) ≤ 1000) : ∀ n : Nat, n ≤ xs.length → 0 ≤ sumP xs n ∧ sumP xs n ≤ 1000 * n
  | 0, _ => by simp [sumP]
  | n + 1, hn => by
    have := sumP_le h n (by omega)
    have := h n (by omega)
    rw [sumP]; omega
theorem sumOf_c (xs : List Int) (h : ∀ i : Nat, i < xs.length → 0 ≤ geti xs (i : Nat) ∧ geti xs (i : Nat) ≤ 1000) (hl : xs.length ≤ 1000) : AFnV Try.prog 55 [.ints xs] (.int .i64 (sumP xs xs.length)) := by
  (refine AFnV.start Try.func55 Try.ntmps55 rfl (by kernel_rfl) fun hk => ?_; simp only [Env.start, enumF, List.length_cons, List.length_nil, Nat.reduceAdd, Nat.reduceSub, List.cons_append, List.nil_append])
  repeat' (first | (apply AOps.nil; try simp only [List.nil_append, List.cons_append, List.set_cons_zero, List.set_cons_succ, List.length_cons, List.length_nil, Nat.reduceAdd, AV.sh, AV.sh1, AV.sh0, AO.sh, List.map_cons, List.map_nil, Nat.zero_add, Nat.add_zero, setAll]) | (apply w_move; exact rfl; exact rfl) | (apply w_assign; exact rfl; exact rfl) | apply AWp.seq | apply AWp.region | apply AWp.block | (apply w_len; exact rfl; exact rfl; first | exact .ints _ | exact .intss _ | exact .sli rfl | exact .sls rfl | exact .slr rfl | exact .orow rfl | exact .nil))
  refine AWp.loop (ι := Nat) (fun n => ⟨17, [(3, .i (sumP xs n)), (6, .ints xs), (7, .i xs.length), (8, .i n)]⟩) (fun n => []) (fun n => n ≤ xs.length) (fun n => xs.length - n) 0 (by omega) ⟨lee rfl (by (repeat (first | exact le_nil | refine le_eq rfl rfl ?_))), by (repeat (exact lo_nil)), rfl, rfl⟩ ?_
  rintro n h0
  have hs := sumP_le h n h0
  by_cases hn : n < xs.length
  · have hh := h n hn
    have e : sumP xs (n + 1) = sumP xs n + geti xs (n : Nat) := rfl
    repeat' (first | (apply AOps.nil; try simp only [List.nil_append, List.cons_append, List.set_cons_zero, List.set_cons_succ, List.length_cons, List.length_nil, Nat.reduceAdd, AV.sh, AV.sh1, AV.sh0, AO.sh, List.map_cons, List.map_nil, Nat.zero_add, Nat.add_zero, setAll]) | (apply w_move; exact rfl; exact rfl) | (apply w_assign; exact rfl; exact rfl) | apply AWp.seq | apply AWp.region | ((apply AWp.condP; exact rfl) <;> intro h) | apply AWp.block | apply AWp.ret | apply AWp.exit | apply AWp.skip | omega | ((first | apply w_lss | apply w_add | apply w_idx | apply w_ld); iterate 3 exact rfl) | (apply inI_of <;> omega))
    exact ⟨n + 1, hn, by omega, ⟨lee rfl (by (repeat (first | exact le_nil | refine le_eq rfl rfl ?_))), by (repeat (exact lo_nil)), rfl, rfl⟩⟩
  · have e : n = xs.length := by omega
    subst e
    repeat' (first | (apply AOps.nil; try simp only [List.nil_append, List.cons_append, List.set_cons_zero, List.set_cons_succ, List.length_cons, List.length_nil, Nat.reduceAdd, AV.sh, AV.sh1, AV.sh0, AO.sh, List.map_cons, List.map_nil, Nat.zero_add, Nat.add_zero, setAll]) | (apply w_move; exact rfl; exact rfl) | (apply w_assign; exact rfl; exact rfl) | apply AWp.seq | apply AWp.region | ((apply AWp.condP; exact rfl) <;> intro h) | apply AWp.block | apply AWp.ret | apply AWp.exit | apply AWp.skip | omega | ((apply w_lss); iterate 3 exact rfl))
    exact .int Try.results55 rfl rfl
theorem l17Total_c (xs : List Int) (h : ∀ i : Nat, i < xs.length → 0 ≤ geti xs (i : Nat) ∧ geti xs (i : Nat) ≤ 1000) (hl : xs.length ≤ 1000) : AFnV Try.prog 54 [.ints xs] (.int .i64 (sumP xs xs.length)) := by
  (refine AFnV.start Try.func54 Try.ntmps54 rfl (by kernel_rfl) fun hk => ?_; simp only [Env.start, enumF, List.length_cons, List.length_nil, Nat.reduceAdd, Nat.reduceSub, List.cons_append, List.nil_append])
  repeat' (first | (apply AOps.nil; try simp only [List.nil_append, List.cons_append, List.set_cons_zero, List.set_cons_succ, List.length_cons, List.length_nil, Nat.reduceAdd, AV.sh, AV.sh1, AV.sh0, AO.sh, List.map_cons, List.map_nil, Nat.zero_add, Nat.add_zero, setAll]) | (apply w_assign; exact rfl; exact rfl) | apply AWp.seq | apply AWp.region | apply AWp.block)
  refine AWp.loop (ι := Nat) (fun n => ⟨18, [(0, .ints xs), (3, .i (sumP xs n)), (4, .i n)]⟩) (fun n => []) (fun n => n ≤ xs.length) (fun n => xs.length - n) 0 (by omega) ⟨lee rfl (by (repeat (first | exact le_nil | refine le_eq rfl rfl ?_))), by (repeat (exact lo_nil)), rfl, rfl⟩ ?_
  rintro n h0
  have hs := sumP_le h n h0
  by_cases hn : n < xs.length
  · have hh := h n hn
    have e : sumP xs (n + 1) = sumP xs n + geti xs (n : Nat) := rfl
    repeat' (first | (apply AOps.nil; try simp only [List.nil_append, List.cons_append, List.set_cons_zero, List.set_cons_succ, List.length_cons, List.length_nil, Nat.reduceAdd, AV.sh, AV.sh1, AV.sh0, AO.sh, List.map_cons, List.map_nil, Nat.zero_add, Nat.add_zero, setAll]) | (apply w_move; exact rfl; exact rfl) | (apply w_assign; exact rfl; exact rfl) | apply AWp.seq | apply AWp.region | ((apply AWp.condP; exact rfl) <;> intro h) | apply AWp.block | apply AWp.ret | apply AWp.exit | apply AWp.skip | (apply w_len; exact rfl; exact rfl; first | exact .ints _ | exact .intss _ | exact .sli rfl | exact .sls rfl | exact .slr rfl | exact .orow rfl | exact .nil) | omega | ((first | apply w_lss | apply w_add | apply w_idx | apply w_ld); iterate 3 exact rfl) | (apply inI_of <;> omega))
    exact ⟨n + 1, hn, by omega, ⟨lee rfl (by (repeat (first | exact le_nil | refine le_eq rfl rfl ?_))), by (repeat (exact lo_nil)), rfl, rfl⟩⟩
  · have e : n = xs.length := by omega
    subst e
    repeat' (first | (apply AOps.nil; try simp only [List.nil_append, List.cons_append, List.set_cons_zero, List.set_cons_succ, List.length_cons, List.length_nil, Nat.reduceAdd, AV.sh, AV.sh1, AV.sh0, AO.sh, List.map_cons, List.map_nil, Nat.zero_add, Nat.add_zero, setAll]) | (apply w_move; exact rfl; exact rfl) | (apply w_assign; exact rfl; exact rfl) | apply AWp.seq | apply AWp.region | ((apply AWp.condP; exact rfl) <;> intro h) | apply AWp.block | apply AWp.ret | apply AWp.exit | apply AWp.skip | (apply w_len; exact rfl; exact rfl; first | exact .ints _ | exact .intss _ | exact .sli rfl | exact .sls rfl | exact .slr rfl | exact .orow rfl | exact .nil) | omega | ((apply w_lss); iterate 3 exact rfl))
    exact .int Try.results54 rfl rfl
theorem loc_at (P : Nat → Bool) : (locL P).length ≤ 17 ∧ ∀ i : Nat, i < (locL P).length → 0 ≤ geti (locL P) (i : Nat) ∧ geti (locL P) (i : Nat) ≤ 1000 := by
  have hx : ∃ d, isStop P d := by
    apply Classical.byContradiction
    intro hno
    have key : ∀ n, goOn P n := fun n => by
      induction n with
      | zero => exact fun j hj => by omega
      | succ n ih =>
        refine goOn_succ ih (fun e => hno ⟨n, .inl e, ih⟩) ?_
        rcases Nat.lt_or_ge 16 (sumH P (n + 1)) with h | h
        · exact absurd ⟨n, .inr h, ih⟩ hno
        · exact h
    exact goOn_17 (key 17)
  obtain ⟨d, hd⟩ := hx
  have e := stopN_eq hd
  have hd17 : d ≤ 16 := by
    rcases Nat.lt_or_ge 16 d with h | h
    · exact (goOn_17 fun j hj => hd.2 j (by omega)).elim
    · exact h
  unfold locL
  rw [e]
  split
  · refine ⟨by rw [cntL_len]; omega, fun i hi => ?_⟩
    rw [cntL_len] at hi
    rw [geti_cnt P d i hi]
    have := hcN_le P i
    omega
  · exact ⟨by simp, fun i hi => by simp at hi⟩
theorem locE_or (P : Nat → Bool) : locE P = 0 ∨ locE P = 3 := by unfold locE; split <;> simp
theorem locL_n {P : Nat → Bool} (h : locE P ≠ 0) : locL P = [] := by
  unfold locE at h
  unfold locL
  split
  · rename_i h2; rw [if_pos h2] at h; exact absurd rfl h
  · rfl

/-- The error of local counts. -/
noncomputable def lcsE (fs : List (List (List Int))) : Int := if fs.all isPo = false then 1 else if ¬ (1 ≤ fs.length ∧ fs.length ≤ 3) then 2 else if fs.any (fun f => lowB f 0) then 5 else locE (isLd fs)
/-- Local counts. -/
noncomputable def lcsL (fs : List (List (List Int))) : List Int := if fs.all isPo = false then [] else if ¬ (1 ≤ fs.length ∧ fs.length ≤ 3) then [] else if fs.any (fun f => lowB f 0) then [] else locL (isLd fs)
theorem lcs_at (fs : List (List (List Int))) : (lcsL fs).length ≤ 17 ∧ ∀ i : Nat, i < (lcsL fs).length → 0 ≤ geti (lcsL fs) (i : Nat) ∧ geti (lcsL fs) (i : Nat) ≤ 1000 := by
  have nil : ([] : List Int).length ≤ 17 ∧ ∀ i : Nat, i < ([] : List Int).length → 0 ≤ geti ([] : List Int) (i : Nat) ∧ geti ([] : List Int) (i : Nat) ≤ 1000 := ⟨by simp, fun i hi => by simp at hi⟩
  unfold lcsL
  split
  · exact nil
  split
  · exact nil
  split
  · exact nil
  exact loc_at _
theorem lcs_cases (fs : List (List (List Int))) : (fs.all isPo = false ∧ lcsE fs = 1 ∧ lcsL fs = []) ∨ (fs.all isPo = true ∧ ¬ (1 ≤ fs.length ∧ fs.length ≤ 3) ∧ lcsE fs = 2 ∧ lcsL fs = []) ∨
    (fs.all isPo = true ∧ (1 ≤ fs.length ∧ fs.length ≤ 3) ∧ fs.any (fun f => lowB f 0) = true ∧ lcsE fs = 5 ∧ lcsL fs = []) ∨ (fs.all isPo = true ∧ (1 ≤ fs.length ∧ fs.length ≤ 3) ∧ fs.any (fun f => lowB f 0) = false ∧ lcsE fs = locE (isLd fs) ∧ lcsL fs = locL (isLd fs)) := by
  unfold lcsE lcsL
  cases h : fs.all isPo
  · exact .inl ⟨rfl, by simp, by simp⟩
  · by_cases h2 : 1 ≤ fs.length ∧ fs.length ≤ 3
    · cases h3 : fs.any (fun f => lowB f 0)
      · exact .inr (.inr (.inr ⟨rfl, h2, rfl, by simp [h2], by simp [h2]⟩))
      · exact .inr (.inr (.inl ⟨rfl, h2, rfl, by simp [h2], by simp [h2]⟩))
    · exact .inr (.inl ⟨rfl, h2, by rw [if_neg (by simp), if_pos h2], by rw [if_neg (by simp), if_pos h2]⟩)

set_option maxHeartbeats 4000000 in
theorem implLocalCounts_c (fs : List (List (List Int))) (hn : fs.length ≤ 1048576) : AFn Try.prog 21 [.ro (polsRo fs)] (IsPC 2 (lcsL fs) (lcsE fs)) := by
  have q1 := arePolys_c fs hn
  rcases lcs_cases fs with ⟨h1, e1, e2⟩ | ⟨h1, h2, e1, e2⟩ | ⟨h1, h2, h3, e1, e2⟩ | ⟨h1, h2, h3, e1, e2⟩
  all_goals rw [e1, e2]
  all_goals rw [h1] at q1
  · rw [isPC_n (by decide)]
    (refine AFn.start Try.func21 Try.ntmps21 rfl (by kernel_rfl) fun hk => ?_; simp only [Env.start, enumF, List.length_cons, List.length_nil, Nat.reduceAdd, Nat.reduceSub, List.cons_append, List.nil_append])
    repeat' (first | (apply AOps.nil; try simp only [List.nil_append, List.cons_append, List.set_cons_zero, List.set_cons_succ, List.length_cons, List.length_nil, Nat.reduceAdd, AV.sh, AV.sh1, AV.sh0, AO.sh, List.map_cons, List.map_nil, Nat.zero_add, Nat.add_zero, setAll]) | (apply w_move; exact rfl; exact rfl) | (apply w_assign; exact rfl; exact rfl) | apply AWp.seq | apply AWp.region | (apply AWp.condT; exact rfl) | apply AWp.ret | (apply w_call (q1); exact rfl; exact rfl; focus ((repeat (first | exact im_nil | refine im_cons rfl (.ro _) ?_)); done)) | ((apply w_not); iterate 2 exact rfl))
    all_goals exact ⟨_, _, _, .a2 Try.results21 rfl rfl, .tup2 (.val _), rfl, rfl⟩
  · rw [isPC_n (by decide)]
    (refine AFn.start Try.func21 Try.ntmps21 rfl (by kernel_rfl) fun hk => ?_; simp only [Env.start, enumF, List.length_cons, List.length_nil, Nat.reduceAdd, Nat.reduceSub, List.cons_append, List.nil_append])
    repeat' (first | (apply AOps.nil; try simp only [List.nil_append, List.cons_append, List.set_cons_zero, List.set_cons_succ, List.length_cons, List.length_nil, Nat.reduceAdd, AV.sh, AV.sh1, AV.sh0, AO.sh, List.map_cons, List.map_nil, Nat.zero_add, Nat.add_zero, setAll]) | ((apply AOps.splitP; exact rfl; exact rfl) <;> intro h) | (apply w_move; exact rfl; exact rfl) | (apply w_assign; exact rfl; exact rfl) | apply AWp.seq | apply AWp.region | ((apply AWp.condP; exact rfl) <;> intro h) | (apply AWp.condT; exact rfl) | (apply AWp.condF; exact rfl) | apply AWp.block | apply AWp.ret | apply AWp.skip | (apply w_skip; exact rfl) | (apply w_pickT; exact rfl; exact rfl; exact rfl) | (apply w_pickF; exact rfl; exact rfl; exact rfl) | ((apply w_lenps); iterate 2 exact rfl) | (apply w_call (q1); exact rfl; exact rfl; focus ((repeat (first | exact im_nil | refine im_cons rfl (.ro _) ?_)); done)) | omega | ((first | apply w_lss | apply w_gtr); iterate 3 exact rfl) | ((apply w_not); iterate 2 exact rfl))
    all_goals exact ⟨_, _, _, .a2 Try.results21 rfl rfl, .tup2 (.val _), rfl, rfl⟩
  all_goals have hpo : ∀ n : Nat, n < fs.length → isPo (fs.getD n []) = true := fun n hn => List.all_eq_true.1 h1 _ (getD_mem hn)
  · rw [isPC_n (by decide)]
    (refine AFn.start Try.func21 Try.ntmps21 rfl (by kernel_rfl) fun hk => ?_; simp only [Env.start, enumF, List.length_cons, List.length_nil, Nat.reduceAdd, Nat.reduceSub, List.cons_append, List.nil_append])
    repeat' (first | (apply AOps.nil; try simp only [List.nil_append, List.cons_append, List.set_cons_zero, List.set_cons_succ, List.length_cons, List.length_nil, Nat.reduceAdd, AV.sh, AV.sh1, AV.sh0, AO.sh, List.map_cons, List.map_nil, Nat.zero_add, Nat.add_zero, setAll]) | ((apply AOps.splitP; exact rfl; exact rfl) <;> intro h) | (apply w_move; exact rfl; exact rfl) | (apply w_assign; exact rfl; exact rfl) | apply AWp.seq | apply AWp.region | ((apply AWp.condP; exact rfl) <;> intro h) | (apply AWp.condT; exact rfl) | (apply AWp.condF; exact rfl) | apply AWp.block | apply AWp.ret | apply AWp.skip | (apply w_skip; exact rfl) | (apply w_pickT; exact rfl; exact rfl; exact rfl) | (apply w_pickF; exact rfl; exact rfl; exact rfl) | ((apply w_lenps); iterate 2 exact rfl) | (apply w_call (q1); exact rfl; exact rfl; focus ((repeat (first | exact im_nil | refine im_cons rfl (.ro _) ?_)); done)) | omega | ((first | apply w_lss | apply w_gtr); iterate 3 exact rfl) | ((apply w_not); iterate 2 exact rfl))
    refine AWp.loop (ι := Nat) (fun n => ⟨30, [(0, .ro (polsRo fs)), (17, .ro (polsRo fs)), (18, .i fs.length), (19, .i n)]⟩) (fun n => []) (fun n => n ≤ fs.length ∧ ∀ j, j < n → lowB (fs.getD j []) 0 = false) (fun n => fs.length - n) 0 ⟨by omega, fun j hj => by omega⟩ ⟨lee rfl (by (repeat (first | exact le_nil | refine le_eq rfl rfl ?_))), by (repeat (exact lo_nil)), rfl, rfl⟩ ?_
    rintro n ⟨h0, h4⟩
    by_cases hn1 : n < fs.length
    · have hq := hasTerm_c (fs.getD n []) (hpo n hn1) 0
      cases hp : lowB (fs.getD n []) 0 with
      | true =>
        rw [hp] at hq
        repeat' (first | (apply AOps.nil; try simp only [List.nil_append, List.cons_append, List.set_cons_zero, List.set_cons_succ, List.length_cons, List.length_nil, Nat.reduceAdd, AV.sh, AV.sh1, AV.sh0, AO.sh, List.map_cons, List.map_nil, Nat.zero_add, Nat.add_zero, setAll]) | (apply w_move; exact rfl; exact rfl) | (apply w_assign; exact rfl; exact rfl) | apply AWp.seq | apply AWp.region | ((apply AWp.condP; exact rfl) <;> intro h) | (apply AWp.condT; exact rfl) | apply AWp.block | apply AWp.ret | apply AWp.exit | apply AWp.skip | ((apply w_alst); iterate 2 exact rfl) | (apply w_idxps; iterate 3 exact rfl) | (apply w_ldps; iterate 3 exact rfl) | (apply w_call (hq); exact rfl; exact rfl; focus ((repeat (first | exact im_nil | refine im_cons rfl (.val _) ?_ | refine im_cons rfl (im_agg1 (.intss _)) ?_)); done)) | omega | ((apply w_lss); iterate 3 exact rfl) | (apply w_ldst; iterate 5 exact rfl) | (apply w_stst; iterate 5 exact rfl))
        exact ⟨_, _, _, .a2 Try.results21 rfl rfl, .tup2 (.val _), rfl, rfl⟩
      | false =>
        rw [hp] at hq
        repeat' (first | (apply AOps.nil; try simp only [List.nil_append, List.cons_append, List.set_cons_zero, List.set_cons_succ, List.length_cons, List.length_nil, Nat.reduceAdd, AV.sh, AV.sh1, AV.sh0, AO.sh, List.map_cons, List.map_nil, Nat.zero_add, Nat.add_zero, setAll]) | (apply w_move; exact rfl; exact rfl) | apply AWp.seq | apply AWp.region | ((apply AWp.condP; exact rfl) <;> intro h) | (apply AWp.condF; exact rfl) | apply AWp.block | apply AWp.exit | apply AWp.skip | ((apply w_alst); iterate 2 exact rfl) | (apply w_idxps; iterate 3 exact rfl) | (apply w_ldps; iterate 3 exact rfl) | (apply w_call (hq); exact rfl; exact rfl; focus ((repeat (first | exact im_nil | refine im_cons rfl (.val _) ?_ | refine im_cons rfl (im_agg1 (.intss _)) ?_)); done)) | omega | ((first | apply w_lss | apply w_add); iterate 3 exact rfl) | (apply w_ldst; iterate 5 exact rfl) | (apply w_stst; iterate 5 exact rfl) | (apply inI_of <;> omega))
        refine ⟨n + 1, ⟨hn1, fun j hj => ?_⟩, by omega, ⟨lee rfl (by (repeat (first | exact le_nil | refine le_eq rfl rfl ?_))), by (repeat (exact lo_nil)), rfl, rfl⟩⟩
        by_cases e : j = n
        · subst e; exact hp
        · exact h4 j (by omega)
    · exfalso
      obtain ⟨f, hf, hlow⟩ := List.any_eq_true.1 h3
      obtain ⟨j, hj, rfl⟩ := List.getElem_of_mem hf
      have := h4 j (by omega)
      rw [List.getD_eq_getElem?_getD, List.getElem?_eq_getElem hj] at this
      simp only [Option.getD_some] at this
      rw [this] at hlow; cases hlow
  · have hlo : ∀ n : Nat, n < fs.length → lowB (fs.getD n []) 0 = false := fun n hn => by
      have := List.any_eq_false.1 h3 _ (getD_mem (d := []) hn)
      simpa using this
    have hloc := localCounts_c fs (fun f hf => poO_of (List.all_eq_true.1 h1 f hf)) (by omega)
    rcases locE_or (isLd fs) with hE | hE
    · rw [hE] at hloc ⊢
      rw [isPC_0] at hloc ⊢
      (refine AFn.start Try.func21 Try.ntmps21 rfl (by kernel_rfl) fun hk => ?_; simp only [Env.start, enumF, List.length_cons, List.length_nil, Nat.reduceAdd, Nat.reduceSub, List.cons_append, List.nil_append])
      repeat' (first | (apply AOps.nil; try simp only [List.nil_append, List.cons_append, List.set_cons_zero, List.set_cons_succ, List.length_cons, List.length_nil, Nat.reduceAdd, AV.sh, AV.sh1, AV.sh0, AO.sh, List.map_cons, List.map_nil, Nat.zero_add, Nat.add_zero, setAll]) | ((apply AOps.splitP; exact rfl; exact rfl) <;> intro h) | (apply w_move; exact rfl; exact rfl) | (apply w_assign; exact rfl; exact rfl) | apply AWp.seq | apply AWp.region | ((apply AWp.condP; exact rfl) <;> intro h) | (apply AWp.condT; exact rfl) | (apply AWp.condF; exact rfl) | apply AWp.block | apply AWp.ret | apply AWp.skip | (apply w_skip; exact rfl) | (apply w_pickT; exact rfl; exact rfl; exact rfl) | (apply w_pickF; exact rfl; exact rfl; exact rfl) | ((apply w_lenps); iterate 2 exact rfl) | (apply w_call (q1); exact rfl; exact rfl; focus ((repeat (first | exact im_nil | refine im_cons rfl (.ro _) ?_)); done)) | omega | ((first | apply w_lss | apply w_gtr); iterate 3 exact rfl) | ((apply w_not); iterate 2 exact rfl))
      refine AWp.loop (ι := Nat) (fun n => ⟨30, [(0, .ro (polsRo fs)), (17, .ro (polsRo fs)), (18, .i fs.length), (19, .i n)]⟩) (fun n => []) (fun n => n ≤ fs.length) (fun n => fs.length - n) 0 (by omega) ⟨lee rfl (by (repeat (first | exact le_nil | refine le_eq rfl rfl ?_))), by (repeat (exact lo_nil)), rfl, rfl⟩ ?_
      rintro n h0
      by_cases hn1 : n < fs.length
      · have hq := hasTerm_c (fs.getD n []) (hpo n hn1) 0
        rw [hlo n hn1] at hq
        repeat' (first | (apply AOps.nil; try simp only [List.nil_append, List.cons_append, List.set_cons_zero, List.set_cons_succ, List.length_cons, List.length_nil, Nat.reduceAdd, AV.sh, AV.sh1, AV.sh0, AO.sh, List.map_cons, List.map_nil, Nat.zero_add, Nat.add_zero, setAll]) | (apply w_move; exact rfl; exact rfl) | apply AWp.seq | apply AWp.region | ((apply AWp.condP; exact rfl) <;> intro h) | (apply AWp.condF; exact rfl) | apply AWp.block | apply AWp.exit | apply AWp.skip | ((apply w_alst); iterate 2 exact rfl) | (apply w_idxps; iterate 3 exact rfl) | (apply w_ldps; iterate 3 exact rfl) | (apply w_call (hq); exact rfl; exact rfl; focus ((repeat (first | exact im_nil | refine im_cons rfl (.val _) ?_ | refine im_cons rfl (im_agg1 (.intss _)) ?_)); done)) | omega | ((first | apply w_lss | apply w_add); iterate 3 exact rfl) | (apply w_ldst; iterate 5 exact rfl) | (apply w_stst; iterate 5 exact rfl) | (apply inI_of <;> omega))
        exact ⟨n + 1, hn1, by omega, ⟨lee rfl (by (repeat (first | exact le_nil | refine le_eq rfl rfl ?_))), by (repeat (exact lo_nil)), rfl, rfl⟩⟩
      · repeat' (first | (apply AOps.nil; try simp only [List.nil_append, List.cons_append, List.set_cons_zero, List.set_cons_succ, List.length_cons, List.length_nil, Nat.reduceAdd, AV.sh, AV.sh1, AV.sh0, AO.sh, List.map_cons, List.map_nil, Nat.zero_add, Nat.add_zero, setAll]) | (apply w_move; exact rfl; exact rfl) | (apply w_assign; exact rfl; exact rfl) | apply AWp.seq | apply AWp.region | ((apply AWp.condP; exact rfl) <;> intro h) | apply AWp.block | apply AWp.ret | apply AWp.exit | apply AWp.skip | ((apply w_alst); iterate 2 exact rfl) | (apply w_idxps; iterate 3 exact rfl) | (apply w_ldps; iterate 3 exact rfl) | (apply w_callm (hloc); (focus ((repeat (first | exact im_nil | refine im_cons rfl (.ro _) ?_)); done)); rintro r os0 ⟨cs, dd, hd1, hd2, rfl, rfl⟩; try simp only [List.nil_append, List.cons_append, List.set_cons_zero, List.set_cons_succ, List.length_cons, List.length_nil, Nat.reduceAdd, AV.sh, AV.sh1, AV.sh0, AO.sh, List.map_cons, List.map_nil, Nat.zero_add, Nat.add_zero, setAll]) | omega | ((first | apply w_lss | apply w_extv); iterate 3 exact rfl) | ((apply w_ext); iterate 3 exact rfl))
        exact ⟨_, _, _, .a2 Try.results21 rfl rfl, .tup2 (.osub rfl), cs, dd, hd1, hd2, rfl, rfl⟩
    · rw [hE] at hloc ⊢
      rw [isPC_n (by decide)] at hloc ⊢
      (refine AFn.start Try.func21 Try.ntmps21 rfl (by kernel_rfl) fun hk => ?_; simp only [Env.start, enumF, List.length_cons, List.length_nil, Nat.reduceAdd, Nat.reduceSub, List.cons_append, List.nil_append])
      repeat' (first | (apply AOps.nil; try simp only [List.nil_append, List.cons_append, List.set_cons_zero, List.set_cons_succ, List.length_cons, List.length_nil, Nat.reduceAdd, AV.sh, AV.sh1, AV.sh0, AO.sh, List.map_cons, List.map_nil, Nat.zero_add, Nat.add_zero, setAll]) | ((apply AOps.splitP; exact rfl; exact rfl) <;> intro h) | (apply w_move; exact rfl; exact rfl) | (apply w_assign; exact rfl; exact rfl) | apply AWp.seq | apply AWp.region | ((apply AWp.condP; exact rfl) <;> intro h) | (apply AWp.condT; exact rfl) | (apply AWp.condF; exact rfl) | apply AWp.block | apply AWp.ret | apply AWp.skip | (apply w_skip; exact rfl) | (apply w_pickT; exact rfl; exact rfl; exact rfl) | (apply w_pickF; exact rfl; exact rfl; exact rfl) | ((apply w_lenps); iterate 2 exact rfl) | (apply w_call (q1); exact rfl; exact rfl; focus ((repeat (first | exact im_nil | refine im_cons rfl (.ro _) ?_)); done)) | omega | ((first | apply w_lss | apply w_gtr); iterate 3 exact rfl) | ((apply w_not); iterate 2 exact rfl))
      refine AWp.loop (ι := Nat) (fun n => ⟨30, [(0, .ro (polsRo fs)), (17, .ro (polsRo fs)), (18, .i fs.length), (19, .i n)]⟩) (fun n => []) (fun n => n ≤ fs.length) (fun n => fs.length - n) 0 (by omega) ⟨lee rfl (by (repeat (first | exact le_nil | refine le_eq rfl rfl ?_))), by (repeat (exact lo_nil)), rfl, rfl⟩ ?_
      rintro n h0
      by_cases hn1 : n < fs.length
      · have hq := hasTerm_c (fs.getD n []) (hpo n hn1) 0
        rw [hlo n hn1] at hq
        repeat' (first | (apply AOps.nil; try simp only [List.nil_append, List.cons_append, List.set_cons_zero, List.set_cons_succ, List.length_cons, List.length_nil, Nat.reduceAdd, AV.sh, AV.sh1, AV.sh0, AO.sh, List.map_cons, List.map_nil, Nat.zero_add, Nat.add_zero, setAll]) | (apply w_move; exact rfl; exact rfl) | apply AWp.seq | apply AWp.region | ((apply AWp.condP; exact rfl) <;> intro h) | (apply AWp.condF; exact rfl) | apply AWp.block | apply AWp.exit | apply AWp.skip | ((apply w_alst); iterate 2 exact rfl) | (apply w_idxps; iterate 3 exact rfl) | (apply w_ldps; iterate 3 exact rfl) | (apply w_call (hq); exact rfl; exact rfl; focus ((repeat (first | exact im_nil | refine im_cons rfl (.val _) ?_ | refine im_cons rfl (im_agg1 (.intss _)) ?_)); done)) | omega | ((first | apply w_lss | apply w_add); iterate 3 exact rfl) | (apply w_ldst; iterate 5 exact rfl) | (apply w_stst; iterate 5 exact rfl) | (apply inI_of <;> omega))
        exact ⟨n + 1, hn1, by omega, ⟨lee rfl (by (repeat (first | exact le_nil | refine le_eq rfl rfl ?_))), by (repeat (exact lo_nil)), rfl, rfl⟩⟩
      · repeat' (first | (apply AOps.nil; try simp only [List.nil_append, List.cons_append, List.set_cons_zero, List.set_cons_succ, List.length_cons, List.length_nil, Nat.reduceAdd, AV.sh, AV.sh1, AV.sh0, AO.sh, List.map_cons, List.map_nil, Nat.zero_add, Nat.add_zero, setAll]) | (apply w_move; exact rfl; exact rfl) | (apply w_assign; exact rfl; exact rfl) | apply AWp.seq | apply AWp.region | ((apply AWp.condP; exact rfl) <;> intro h) | apply AWp.block | apply AWp.ret | apply AWp.exit | apply AWp.skip | ((apply w_alst); iterate 2 exact rfl) | (apply w_idxps; iterate 3 exact rfl) | (apply w_ldps; iterate 3 exact rfl) | (apply w_callm (hloc); (focus ((repeat (first | exact im_nil | refine im_cons rfl (.ro _) ?_)); done)); rintro r os0 ⟨rfl, rfl⟩; try simp only [List.nil_append, List.cons_append, List.set_cons_zero, List.set_cons_succ, List.length_cons, List.length_nil, Nat.reduceAdd, AV.sh, AV.sh1, AV.sh0, AO.sh, List.map_cons, List.map_nil, Nat.zero_add, Nat.add_zero, setAll]) | omega | ((first | apply w_lss | apply w_extv); iterate 3 exact rfl) | ((apply w_ext); iterate 3 exact rfl))
        exact ⟨_, _, _, .a2 Try.results21 rfl rfl, .tup2 (.val _), rfl, rfl⟩
set_option maxHeartbeats 4000000 in
theorem implLocalDimension_c (fs : List (List (List Int))) (hn : fs.length ≤ 1048576) : AFnV Try.prog 25 [.ro (polsRo fs)] (.tuple #[.int .i64 (sumP (lcsL fs) (lcsL fs).length), .int .i64 (lcsE fs)]) := by
  have hc := implLocalCounts_c fs hn
  obtain ⟨hl, ha⟩ := lcs_at fs
  have hs := sumOf_c (lcsL fs) ha (by omega)
  have key : lcsE fs ≠ 0 → lcsL fs = [] := fun h => by
    rcases lcs_cases fs with ⟨h1, e1, e2⟩ | ⟨h1, h2, e1, e2⟩ | ⟨h1, h2, h3, e1, e2⟩ | ⟨h1, h2, h3, e1, e2⟩
    · exact e2
    · exact e2
    · exact e2
    · rw [e2]; exact locL_n (e1 ▸ h)
  by_cases h0 : lcsE fs = 0
  · rw [h0] at hc ⊢
    rw [isPC_0] at hc
    (refine AFnV.start Try.func25 Try.ntmps25 rfl (by kernel_rfl) fun hk => ?_; simp only [Env.start, enumF, List.length_cons, List.length_nil, Nat.reduceAdd, Nat.reduceSub, List.cons_append, List.nil_append])
    repeat' (first | (apply AOps.nil; try simp only [List.nil_append, List.cons_append, List.set_cons_zero, List.set_cons_succ, List.length_cons, List.length_nil, Nat.reduceAdd, AV.sh, AV.sh1, AV.sh0, AO.sh, List.map_cons, List.map_nil, Nat.zero_add, Nat.add_zero, setAll]) | (apply w_move; exact rfl; exact rfl) | (apply w_assign; exact rfl; exact rfl) | apply AWp.seq | apply AWp.region | (apply w_callm (hc); (focus ((repeat (first | exact im_nil | refine im_cons rfl (.ro _) ?_)); done)); rintro r os0 ⟨cs, dd, hd1, hd2, rfl, rfl⟩; try simp only [List.nil_append, List.cons_append, List.set_cons_zero, List.set_cons_succ, List.length_cons, List.length_nil, Nat.reduceAdd, AV.sh, AV.sh1, AV.sh0, AO.sh, List.map_cons, List.map_nil, Nat.zero_add, Nat.add_zero, setAll]) | ((apply w_ext); iterate 3 exact rfl))
    rw [← hd2] at hs
    repeat' (first | (apply AOps.nil; try simp only [List.nil_append, List.cons_append, List.set_cons_zero, List.set_cons_succ, List.length_cons, List.length_nil, Nat.reduceAdd, AV.sh, AV.sh1, AV.sh0, AO.sh, List.map_cons, List.map_nil, Nat.zero_add, Nat.add_zero, setAll]) | (apply w_move; exact rfl; exact rfl) | (apply w_assign; exact rfl; exact rfl) | apply AWp.ret | (apply w_call (hs); exact rfl; exact rfl; focus ((repeat (first | exact im_nil | refine im_cons rfl (.osub rfl (by simp; omega)) ?_)); done)))
    exact .intint Try.results25 rfl rfl (by rw [hd2]) rfl
  · rw [isPC_n h0] at hc
    rw [key h0] at hs ⊢
    (refine AFnV.start Try.func25 Try.ntmps25 rfl (by kernel_rfl) fun hk => ?_; simp only [Env.start, enumF, List.length_cons, List.length_nil, Nat.reduceAdd, Nat.reduceSub, List.cons_append, List.nil_append])
    repeat' (first | (apply AOps.nil; try simp only [List.nil_append, List.cons_append, List.set_cons_zero, List.set_cons_succ, List.length_cons, List.length_nil, Nat.reduceAdd, AV.sh, AV.sh1, AV.sh0, AO.sh, List.map_cons, List.map_nil, Nat.zero_add, Nat.add_zero, setAll]) | (apply w_move; exact rfl; exact rfl) | (apply w_assign; exact rfl; exact rfl) | apply AWp.seq | apply AWp.region | apply AWp.ret | (apply w_callm (hc); (focus ((repeat (first | exact im_nil | refine im_cons rfl (.ro _) ?_)); done)); rintro r os0 ⟨rfl, rfl⟩; try simp only [List.nil_append, List.cons_append, List.set_cons_zero, List.set_cons_succ, List.length_cons, List.length_nil, Nat.reduceAdd, AV.sh, AV.sh1, AV.sh0, AO.sh, List.map_cons, List.map_nil, Nat.zero_add, Nat.add_zero, setAll]) | (apply w_call (hs); exact rfl; exact rfl; focus ((repeat (first | exact im_nil | refine im_cons rfl (.nil) ?_)); done)) | ((apply w_ext); iterate 3 exact rfl))
    exact .intint Try.results25 rfl rfl rfl rfl
end Go.Proofs.Ytifkgmbghcmdeaa
/-
  bits.Len, by the library's own contract laid at this dump in plain words. No condition.
-/
namespace Go.Proofs.Ytifkgmbghcmdeaa
open Go Go.RowKit Go.Shelf
def lays125_ren : Go.Shelf.Ren := ⟨fun | 125 => 112 | 128 => 122 | 129 => 123 | n => n, fun | 46 => 107 | 3 => 3 | 51 => 118 | 53 => 120 | 4 => 4 | 5 => 5 | 9 => 9 | n => n, fun | n => n⟩
theorem lays125 : Go.Proofs.Lays.n125 Try.prog lays125_ren := {
  mixed := by kernel_rfl
  f125 := Try.func112.trans (congrArg some (by kernel_rfl))
  f128 := Try.func122.trans (congrArg some (by kernel_rfl))
  f129 := Try.func123.trans (congrArg some (by kernel_rfl))
  t3 := Try.underlying3
  a3 := Try.isAgg3
  z3 := Try.sizeOf3
  v3 := Try.zeroValue3
  t4 := Try.underlying4
  a4 := Try.isAgg4
  z4 := Try.sizeOf4
  v4 := Try.zeroValue4
  t5 := Try.underlying5
  a5 := Try.isAgg5
  z5 := Try.sizeOf5
  v5 := Try.zeroValue5
  t9 := Try.underlying9
  a9 := Try.isAgg9
  z9 := Try.sizeOf9
  v9 := Try.zeroValue9
  t46 := Try.underlying107
  a46 := Try.isAgg107
  z46 := Try.sizeOf107
  v46 := Try.zeroValue107
  t51 := Try.underlying118
  a51 := Try.isAgg118
  z51 := Try.sizeOf118
  v51 := Try.zeroValue118
  t53 := Try.underlying120
  a53 := Try.isAgg120
  z53 := Try.sizeOf120
  v53 := Try.zeroValue120 }
theorem bits_Len (x : Int) (w : World) (h0 : 0 ≤ x) (h1 : x ≤ 18446744073709551615) :
    Calls Try.prog 112 #[.int .u64 x] w fun e w' => e = .returned (.int .i64 (Lib.bitLen x.toNat)) ∧ w' = w := Any.bits_Len lays125 x w h0 h1
theorem bitsLen_c (n : Int) (h0 : 0 ≤ n) (h1 : n ≤ 18446744073709551615) : AFnV Try.prog 112 [.val (.int .u64 n)] (.int .i64 (Lib.bitLen n.toNat)) := by
  refine ⟨⟨_, _, Try.func112, by kernel_rfl, rfl⟩, fun w vs ⟨h2, h3⟩ => ?_⟩
  have e0 := h3 0
  obtain ⟨l⟩ := vs
  match l, h2 with
  | [v], _ =>
    have e1 : RV w (fun _ => True) [] v (.val (.int .u64 n)) := by simpa using e0
    cases e1
    exact (bits_Len n w h0 h1).mono fun e w' ⟨he, hw⟩ => ⟨he, hw ▸ Below.refl _ _⟩
end Go.Proofs.Ytifkgmbghcmdeaa
/-
  slices.SortFunc at an empty slice of rows. No condition.
-/
namespace Go.Proofs.Ytifkgmbghcmdeaa
open Go Go.RowKit

theorem q_convu {P : Program} {env : Env} {os : List AO} {d : Option Tmp} {ty : TypeId} {pos : String} {af : Array Edge} {g : Option (Nat × Bool)} {wl : Bool} {src dst : TypeId} [hs : TKind P src .i64] [hd : TKind P dst .u64] {x : Operand} {a : Int} (ha : AV.ev env x = .i a) (h0 : 0 ≤ a) (h1 : a ≤ 9223372036854775807) :
    QOp P wl ⟨d, .convert src dst x, ty, pos, af, g⟩ env os (.val (.int .u64 a)) :=
  .of_run fun _ _ _ tm hr => ⟨_, .val _, fun w' _ => by
    have e : IntKind.u64.wrap a = a := by simp [IntKind.wrap, IntKind.bits, IntKind.signed]; omega
    simp [execOp, hr.evv ha, convert, run_underlying hs.und, run_underlying hd.und, Conv.intToInt, e]⟩
theorem w_convu {P : Program} {env : Env} {os : List AO} {d : Tmp} {ty : TypeId} {pos : String} {af : Array Edge} {g : Option (Nat × Bool)} {l rest : List Oper} {K : APost} {q : Md} {src dst : TypeId} [TKind P src .i64] [TKind P dst .u64] {x : Operand} {a : Int}
    (hw : wantedA l env ⟨some d, .convert src dst x, ty, pos, af, g⟩ = some true) (ha : evo env x = some (.i a)) (h0 : 0 ≤ a) (h1 : a ≤ 9223372036854775807) (h' : AOps P q l rest K (env.up d (.val (.int .u64 a))) os) :
    AOps P q l (⟨some d, .convert src dst x, ty, pos, af, g⟩ :: rest) K env os := AOps.qo hw (q_convu (ev_of ha) h0 h1) h'

attribute [local irreducible] AWp AOps ResIs Ret1 QOp LOp COp AFnV AFn Imms LeE LeO
set_option maxHeartbeats 1000000
set_option linter.unusedSimpArgs false
set_option linter.unusedVariables false

theorem insertionSortZ_c (T T2 : TypeId) (F : Value) : AFnU Try.prog 114 [.own 0, .i 0, .i 0, .val F] [.sls T T2 []] (fun v os => v = .tuple #[] ∧ os = [.sls T T2 []]) := by
  (refine AFnUN.start Try.func114 Try.ntmps114 rfl (by kernel_rfl) fun K => ?_; simp only [Env.start, enumF, List.length_cons, List.length_nil, Nat.reduceAdd, Nat.reduceSub, List.cons_append, List.nil_append])
  repeat' (first | (apply AOps.nil; try simp only [List.nil_append, List.cons_append, List.set_cons_zero, List.set_cons_succ, List.length_cons, List.length_nil, Nat.reduceAdd, AV.sh, AV.sh1, AV.sh0, AO.sh, List.map_cons, List.map_nil, Nat.zero_add, Nat.add_zero, setAll]) | (apply w_move; exact rfl; exact rfl) | (apply w_assign; exact rfl; exact rfl) | apply AWp.seq | apply AWp.region | apply AWp.block | ((apply w_add); iterate 3 exact rfl) | (apply inI_of <;> omega))
  refine AWp.loop (ι := Unit) (fun _ => ⟨53, [(2, .i 0), (8, .i 1)]⟩) (fun _ => [.sls T T2 [], .keep 2 K]) (fun _ => True) (fun _ => 0) () trivial ⟨lee rfl (by (repeat (first | exact le_nil | refine le_eq rfl rfl ?_))), by (repeat (first | exact lo_nil | refine lo_eq rfl ?_)), rfl, rfl⟩ ?_
  rintro _ _
  repeat' (first | (apply AOps.nil; try simp only [List.nil_append, List.cons_append, List.set_cons_zero, List.set_cons_succ, List.length_cons, List.length_nil, Nat.reduceAdd, AV.sh, AV.sh1, AV.sh0, AO.sh, List.map_cons, List.map_nil, Nat.zero_add, Nat.add_zero, setAll]) | (apply w_move; exact rfl; exact rfl) | (apply w_assign; exact rfl; exact rfl) | apply AWp.seq | apply AWp.region | ((apply AWp.condP; exact rfl) <;> intro h) | apply AWp.block | apply AWp.exit | apply AWp.skip | (apply if_pos'; exact rfl) | omega | ((apply w_lss); iterate 3 exact rfl))
  all_goals exact ⟨_, _, .unit Try.results114, ⟨rfl, rfl⟩, rfl, rfl, by simp [AO.plain]⟩
theorem pdqsortZ_c (T T2 : TypeId) (lim : Int) (F : Value) : AFnU Try.prog 111 [.own 0, .i 0, .i 0, .i lim, .val F] [.sls T T2 []] (fun v os => v = .tuple #[] ∧ os = [.sls T T2 []]) := by
  (refine AFnUN.start Try.func111 Try.ntmps111 rfl (by kernel_rfl) fun K => ?_; simp only [Env.start, enumF, List.length_cons, List.length_nil, Nat.reduceAdd, Nat.reduceSub, List.cons_append, List.nil_append])
  repeat' (first | (apply AOps.nil; try simp only [List.nil_append, List.cons_append, List.set_cons_zero, List.set_cons_succ, List.length_cons, List.length_nil, Nat.reduceAdd, AV.sh, AV.sh1, AV.sh0, AO.sh, List.map_cons, List.map_nil, Nat.zero_add, Nat.add_zero, setAll]) | (apply w_assign; exact rfl; exact rfl) | apply AWp.seq | apply AWp.region | apply AWp.block)
  refine AWp.loop (ι := Unit) (fun _ => ⟨148, [(0, .own 0), (1, .i 0), (2, .i 0), (4, .val F)]⟩) (fun _ => [.sls T T2 [], .keep 2 K]) (fun _ => True) (fun _ => 0) () trivial ⟨lee rfl (by (repeat (first | exact le_nil | refine le_eq rfl rfl ?_))), by (repeat (first | exact lo_nil | refine lo_eq rfl ?_)), rfl, rfl⟩ ?_
  rintro _ _
  repeat' (first | (apply AOps.nil; try simp only [List.nil_append, List.cons_append, List.set_cons_zero, List.set_cons_succ, List.length_cons, List.length_nil, Nat.reduceAdd, AV.sh, AV.sh1, AV.sh0, AO.sh, List.map_cons, List.map_nil, Nat.zero_add, Nat.add_zero, setAll]) | (apply w_move; exact rfl; exact rfl) | (apply w_assign; exact rfl; exact rfl) | apply AWp.seq | apply AWp.region | ((apply AWp.condP; exact rfl) <;> intro h) | apply AWp.block | apply AWp.ret | apply AWp.skip | (apply w_callu [0] (insertionSortZ_c _ _ F); (exact handed1 rfl True.intro); (focus ((repeat (first | exact imu_nil | refine imu_cons rfl (.val _) ?_ | refine imu_cons rfl (.own rfl) ?_)); done)); rintro v os0 ⟨rfl, rfl⟩; try simp only [List.nil_append, List.cons_append, List.set_cons_zero, List.set_cons_succ, List.length_cons, List.length_nil, Nat.reduceAdd, AV.sh, AV.sh1, AV.sh0, AO.sh, List.map_cons, List.map_nil, Nat.zero_add, Nat.add_zero, setAll]) | omega | ((first | apply w_leq | apply w_sub); iterate 3 exact rfl) | (apply inI_of <;> omega))
  all_goals exact ⟨_, _, .unit Try.results111, ⟨rfl, rfl⟩, rfl, rfl, by simp [AO.plain]⟩
theorem sortZ_c (T T2 : TypeId) (F : Value) : AFnU Try.prog 90 [.own 0, .val F] [.sls T T2 []] (fun v os => v = .tuple #[] ∧ os = [.sls T T2 []]) := by
  have hbl := bitsLen_c ((0 : Nat) : Int) (by omega) (by omega)
  (refine AFnUN.start Try.func90 Try.ntmps90 rfl (by kernel_rfl) fun K => ?_; simp only [Env.start, enumF, List.length_cons, List.length_nil, Nat.reduceAdd, Nat.reduceSub, List.cons_append, List.nil_append])
  repeat' (first | (apply AOps.nil; try simp only [List.nil_append, List.cons_append, List.set_cons_zero, List.set_cons_succ, List.length_cons, List.length_nil, Nat.reduceAdd, AV.sh, AV.sh1, AV.sh0, AO.sh, List.map_cons, List.map_nil, Nat.zero_add, Nat.add_zero, setAll]) | (apply w_move; exact rfl; exact rfl) | (apply w_assign; exact rfl; exact rfl) | apply AWp.seq | apply AWp.region | (apply w_len; exact rfl; exact rfl; first | exact .ints _ | exact .intss _ | exact .sli rfl | exact .sls rfl | exact .slr rfl | exact .orow rfl | exact .nil) | ((apply w_convu); iterate 2 exact rfl) | (apply w_call (hbl); exact rfl; exact rfl; focus ((repeat (first | exact im_nil | refine im_cons rfl (.val _) ?_)); done)) | (apply w_callu [0] (pdqsortZ_c _ _ _ F); (exact handed1 rfl True.intro); (focus ((repeat (first | exact imu_nil | refine imu_cons rfl (.val _) ?_ | refine imu_cons rfl (.own rfl) ?_)); done)); rintro v os0 ⟨rfl, rfl⟩; try simp only [List.nil_append, List.cons_append, List.set_cons_zero, List.set_cons_succ, List.length_cons, List.length_nil, Nat.reduceAdd, AV.sh, AV.sh1, AV.sh0, AO.sh, List.map_cons, List.map_nil, Nat.zero_add, Nat.add_zero, setAll]) | omega)
  all_goals exact ⟨_, _, .unit Try.results90, ⟨rfl, rfl⟩, rfl, rfl, by simp [AO.plain]⟩
end Go.Proofs.Ytifkgmbghcmdeaa
/-
  Partial derivatives: in the program and in the reference. No condition.
-/
namespace Go.Proofs.Ytifkgmbghcmdeaa
open Go Go.RowKit
attribute [local irreducible] AWp AOps ResIs Ret1 QOp LOp COp AFnV AFn Imms LeE LeO
set_option maxHeartbeats 1000000
set_option linter.unusedSimpArgs false
set_option linter.unusedVariables false

set_option maxHeartbeats 4000000 in
theorem l17Partial_c (ts : List (List Int)) (h : isPo ts = true) (k : Nat) (hk01 : k = 0 ∨ k = 1) : AFn Try.prog 88 [.agg [.intss ts], .i k] (IsPol (derL k ts ts.length)) := by
  have hlen := (isPo_of h).1
  (refine AFn.start Try.func88 Try.ntmps88 rfl (by kernel_rfl) fun hk => ?_; simp only [Env.start, enumF, List.length_cons, List.length_nil, Nat.reduceAdd, Nat.reduceSub, List.cons_append, List.nil_append])
  repeat' (first | (apply AOps.nil; try simp only [List.nil_append, List.cons_append, List.set_cons_zero, List.set_cons_succ, List.length_cons, List.length_nil, Nat.reduceAdd, AV.sh, AV.sh1, AV.sh0, AO.sh, List.map_cons, List.map_nil, Nat.zero_add, Nat.add_zero, setAll]) | (apply w_assign; exact rfl; exact rfl) | apply AWp.seq | apply AWp.region | apply AWp.block | ((apply w_bsr0); iterate 1 exact rfl) | ((apply w_boxa); iterate 2 exact rfl) | (apply w_alst; iterate 2 exact rfl))
  refine AWp.loop (ι := Nat) (fun n => ⟨54, [(1, .i k), (2, .optr 0 0), (4, .optr 1 0), (5, .own 2), (6, .i n)]⟩) (fun n => [.bx 50 [.intss ts], .bx 50 [.val (.slice none 0 0)], .sls 22 2 (derL k ts n)]) (fun n => n ≤ ts.length) (fun n => ts.length - n) 0 (by omega) ⟨lee rfl (by (repeat (first | exact le_nil | refine le_eq rfl rfl ?_))), by (repeat (first | exact lo_nil | refine lo_eq rfl ?_)), rfl, rfl⟩ ?_
  rintro n n0
  have dl := derL_len k ts n
  by_cases hn : n < ts.length
  · obtain ⟨q1, q2, q3, q4, _⟩ := (isPo_of h).2 n hn
    have dok := der_ok h hk01 (n := n) n0
    by_cases hp : 0 < geti (gets ts (n : Nat)) (k : Nat)
    · have hm : 0 ≤ geti (gets ts (n : Nat)) (k : Nat) * geti (gets ts (n : Nat)) 2 ∧ geti (gets ts (n : Nat)) (k : Nat) * geti (gets ts (n : Nat)) 2 ≤ 3326400 := by
        rcases hk01 with rfl | rfl
        · exact mulTB (by simp only [Int.natCast_zero]; omega) q4
        · exact mulTB (by simp only [Int.natCast_one]; omega) q4
      have hb0 : 0 ≤ geti (gets ts (n : Nat)) 0 - 1 + k ∧ geti (gets ts (n : Nat)) 0 - 1 + k ≤ 60 := by
        rcases hk01 with rfl | rfl
        · simp only [Int.natCast_zero] at *; omega
        · simp only [Int.natCast_one] at *; omega
      have hb1 : 0 ≤ geti (gets ts (n : Nat)) 1 - k ∧ geti (gets ts (n : Nat)) 1 - k ≤ 60 := by
        rcases hk01 with rfl | rfl
        · simp only [Int.natCast_zero] at *; omega
        · simp only [Int.natCast_one] at *; omega
      have hput := l17Put_c (derL k ts n) (geti (gets ts (n : Nat)) 0 - 1 + k) (geti (gets ts (n : Nat)) 1 - k) (geti (gets ts (n : Nat)) (k : Nat) * geti (gets ts (n : Nat)) 2) (fun t ht => (dok t ht).1) (by omega) (by omega) (by omega) (by omega)
      have eput : putT (derL k ts n) (geti (gets ts (n : Nat)) 0 - 1 + k) (geti (gets ts (n : Nat)) 1 - k) (geti (gets ts (n : Nat)) (k : Nat) * geti (gets ts (n : Nat)) 2 % 55441) = derL k ts (n + 1) := by
        have hb := der_bef h hk01 hn hp
        rcases hk01 with rfl | rfl
        · have e1 : geti (gets ts (n : Nat)) 0 - 1 + ((0 : Nat) : Int) = geti (derT 0 (gets ts (n : Nat))) 0 := by simp only [Int.natCast_zero, Int.add_zero]; rfl
          have e2 : geti (gets ts (n : Nat)) 1 - ((0 : Nat) : Int) = geti (derT 0 (gets ts (n : Nat))) 1 := by simp only [Int.natCast_zero, Int.sub_zero]; rfl
          rw [e1, e2, putT_end hb, derL, if_pos hp]
          · rfl
          · simp only [Int.natCast_zero] at *
            exact mod_ne (by omega) q4
        · have e1 : geti (gets ts (n : Nat)) 0 - 1 + ((1 : Nat) : Int) = geti (derT 1 (gets ts (n : Nat))) 0 := by show _ = geti (gets ts (n : Nat)) 0; omega
          have e2 : geti (gets ts (n : Nat)) 1 - ((1 : Nat) : Int) = geti (derT 1 (gets ts (n : Nat))) 1 := rfl
          rw [e1, e2, putT_end hb, derL, if_pos hp]
          · rfl
          · simp only [Int.natCast_one] at *
            exact mod_ne (by omega) q4
      rw [eput] at hput
      have hkl : (k : Int) < (gets ts (n : Nat)).length := by omega
      repeat' (first | (apply AOps.nil; try simp only [List.nil_append, List.cons_append, List.set_cons_zero, List.set_cons_succ, List.length_cons, List.length_nil, Nat.reduceAdd, AV.sh, AV.sh1, AV.sh0, AO.sh, List.map_cons, List.map_nil, Nat.zero_add, Nat.add_zero, setAll]) | (apply w_move; exact rfl; exact rfl) | (apply w_assign; exact rfl; exact rfl) | apply AWp.seq | apply AWp.region | ((apply AWp.condP; exact rfl) <;> intro h) | apply AWp.block | apply AWp.exit | apply AWp.skip | (apply w_len; exact rfl; exact rfl; first | exact .ints _ | exact .intss _ | exact .sli rfl | exact .sls rfl | exact .slr rfl | exact .orow rfl | exact .nil) | omega | ((first | apply w_lss | apply w_gtr | apply w_idx | apply w_ld | apply w_fa); iterate 3 exact rfl) | ((first | apply w_idxs | apply w_lds); iterate 3 exact rfl) | (apply w_ldb; iterate 5 exact rfl))
      apply AWp.regionQ; kernel_rfl; kernel_rfl
      repeat' (first | (apply AOps.nil; try simp only [List.nil_append, List.cons_append, List.set_cons_zero, List.set_cons_succ, List.length_cons, List.length_nil, Nat.reduceAdd, AV.sh, AV.sh1, AV.sh0, AO.sh, List.map_cons, List.map_nil, Nat.zero_add, Nat.add_zero, setAll]) | (apply w_move; exact rfl; exact rfl) | (apply w_assign; exact rfl; exact rfl) | omega | ((first | apply w_add | apply w_sub | apply w_idx | apply w_ld); iterate 3 exact rfl) | (apply inI_of <;> omega))
      refine AWp.regionG [] (by kernel_rfl) (envC := ⟨54, [(1, .i k), (2, .optr 0 0), (4, .optr 1 0), (5, .own 2), (6, .i n)]⟩) (osC := [.bx 50 [.intss ts], .bx 50 [.val (.slice none 0 0)], .sls 22 2 (derL k ts (n + 1))]) rfl rfl ?_ ?_
      · repeat' (first | (apply AOps.nil; try simp only [List.nil_append, List.cons_append, List.set_cons_zero, List.set_cons_succ, List.length_cons, List.length_nil, Nat.reduceAdd, AV.sh, AV.sh1, AV.sh0, AO.sh, List.map_cons, List.map_nil, Nat.zero_add, Nat.add_zero, setAll]) | (apply w_move; exact rfl; exact rfl) | (apply w_assign; exact rfl; exact rfl) | apply AllOfG.nil | (apply AllOfG.consS; exact rfl; exact rfl) | (apply AAnyG.takeW; exact rfl; exact rfl; kernel_rfl; kernel_rfl) | (apply AAnyG.takeL; exact rfl; exact rfl; kernel_rfl) | (apply AAnyG.all; exact rfl) | (apply AAnyG.done; exact rfl) | (apply w_callt 2 (hput); exact rfl; exact rfl; (focus ((repeat (first | exact imu_nil | refine imu_cons rfl (.val _) ?_ | refine imu_cons rfl (.own rfl) ?_)); done)); rintro xss0 rfl; simp only [Env.mp, List.map_cons, List.map_nil, List.set_cons_zero, List.set_cons_succ, AV.kill, AV.kill1, AO.kill, AV.lose, AV.lose1, List.map_append, map_orow_kill, AV.noRow, AV.noRow1, AO.via, reduceIte, Nat.reduceEqDiff, Nat.reduceLT, Env.up, Nat.zero_ne_one, Nat.one_ne_zero, Nat.reduceAdd, List.cons_append, List.nil_append]) | omega | ((first | apply w_mul | apply w_idx | apply w_ld); iterate 3 exact rfl) | (apply inI_of <;> omega))
        all_goals (apply Or.inl; refine ⟨lee rfl ?_, ?_, rfl, rfl⟩; (focus ((repeat (first | exact le_nil | refine le_eq rfl rfl ?_)); done)); (focus ((repeat (first | exact lo_nil | refine lo_eq rfl ?_)); done)))
      repeat' (first | (apply AOps.nil; try simp only [List.nil_append, List.cons_append, List.set_cons_zero, List.set_cons_succ, List.length_cons, List.length_nil, Nat.reduceAdd, AV.sh, AV.sh1, AV.sh0, AO.sh, List.map_cons, List.map_nil, Nat.zero_add, Nat.add_zero, setAll]) | (apply w_move; exact rfl; exact rfl) | (apply w_assign; exact rfl; exact rfl) | apply AWp.region | ((apply w_add); iterate 3 exact rfl) | (apply inI_of <;> omega))
      exact ⟨n + 1, hn, by omega, ⟨lee rfl (by (repeat (first | exact le_nil | refine le_eq rfl rfl ?_))), by (repeat (first | exact lo_nil | refine lo_eq rfl ?_)), rfl, rfl⟩⟩
    · have hd : derL k ts (n + 1) = derL k ts n := by rw [derL, if_neg hp]
      have hkl : (k : Int) < (gets ts (n : Nat)).length := by omega
      repeat' (first | (apply AOps.nil; try simp only [List.nil_append, List.cons_append, List.set_cons_zero, List.set_cons_succ, List.length_cons, List.length_nil, Nat.reduceAdd, AV.sh, AV.sh1, AV.sh0, AO.sh, List.map_cons, List.map_nil, Nat.zero_add, Nat.add_zero, setAll]) | (apply w_move; exact rfl; exact rfl) | (apply w_assign; exact rfl; exact rfl) | apply AWp.seq | apply AWp.region | ((apply AWp.condP; exact rfl) <;> intro h) | apply AWp.block | apply AWp.exit | apply AWp.skip | (apply AWp.regionQ; kernel_rfl; kernel_rfl) | (apply w_len; exact rfl; exact rfl; first | exact .ints _ | exact .intss _ | exact .sli rfl | exact .sls rfl | exact .slr rfl | exact .orow rfl | exact .nil) | omega | ((first | apply w_lss | apply w_gtr | apply w_add | apply w_idx | apply w_ld | apply w_fa); iterate 3 exact rfl) | ((first | apply w_idxs | apply w_lds); iterate 3 exact rfl) | (apply w_ldb; iterate 5 exact rfl) | (apply inI_of <;> omega))
      exact ⟨n + 1, hn, by omega, ⟨lee rfl (by (repeat (first | exact le_nil | refine le_eq rfl rfl ?_))), by (repeat (first | exact lo_nil | refine lo_eq rfl ?_ | refine lo_eq (congrArg (AO.sls _ _) (hd.symm)) ?_)), rfl, rfl⟩⟩
  · have e : n = ts.length := by omega
    subst e
    have hown := l01Own2_c (derL k ts ts.length) (by omega) (fun d hd => by have := (der_ok h hk01 (Nat.le_refl _) d hd).1.1; omega)
    repeat' (first | (apply AOps.nil; try simp only [List.nil_append, List.cons_append, List.set_cons_zero, List.set_cons_succ, List.length_cons, List.length_nil, Nat.reduceAdd, AV.sh, AV.sh1, AV.sh0, AO.sh, List.map_cons, List.map_nil, Nat.zero_add, Nat.add_zero, setAll]) | (apply w_move; exact rfl; exact rfl) | apply AWp.seq | apply AWp.region | ((apply AWp.condP; exact rfl) <;> intro h) | apply AWp.block | apply AWp.ret | apply AWp.exit | apply AWp.skip | (apply w_len; exact rfl; exact rfl; first | exact .ints _ | exact .intss _ | exact .sli rfl | exact .sls rfl | exact .slr rfl | exact .orow rfl | exact .nil) | omega | (apply w_callm (hown); (focus ((repeat (first | exact im_nil | refine im_cons rfl (.sls rfl) ?_)); done)); rintro r os0 ⟨rfl, rfl⟩; try simp only [List.nil_append, List.cons_append, List.set_cons_zero, List.set_cons_succ, List.length_cons, List.length_nil, Nat.reduceAdd, AV.sh, AV.sh1, AV.sh0, AO.sh, List.map_cons, List.map_nil, Nat.zero_add, Nat.add_zero, setAll]) | ((first | apply w_lss | apply w_ld | apply w_fa); iterate 3 exact rfl) | (apply w_ldb; iterate 5 exact rfl) | (apply w_build1; exact rfl; exact rfl; (exact one_own rfl True.intro)) | (apply w_stst; iterate 5 exact rfl))
    exact ⟨_, _, _, .c1 Try.results88 rfl rfl rfl, .agg1 (.sls rfl), rfl, rfl⟩

set_option maxHeartbeats 4000000 in
theorem partial_c (ts : List (List Int)) (h : isPo ts = true) (k : Nat) (hk01 : k = 0 ∨ k = 1) : AFn Try.prog 60 [.agg [.intss ts], .i k] (IsPol (derL k ts ts.length)) := by
  have hlen := (isPo_of h).1
  (refine AFn.start Try.func60 Try.ntmps60 rfl (by kernel_rfl) fun hk => ?_; simp only [Env.start, enumF, List.length_cons, List.length_nil, Nat.reduceAdd, Nat.reduceSub, List.cons_append, List.nil_append])
  repeat' (first | (apply AOps.nil; try simp only [List.nil_append, List.cons_append, List.set_cons_zero, List.set_cons_succ, List.length_cons, List.length_nil, Nat.reduceAdd, AV.sh, AV.sh1, AV.sh0, AO.sh, List.map_cons, List.map_nil, Nat.zero_add, Nat.add_zero, setAll]) | (apply w_move; exact rfl; exact rfl) | apply AWp.seq | apply AWp.region | apply AWp.block | (apply w_len; exact rfl; exact rfl; first | exact .ints _ | exact .intss _ | exact .sli rfl | exact .sls rfl | exact .slr rfl | exact .orow rfl | exact .nil) | ((apply w_bsr0); iterate 1 exact rfl) | ((first | apply w_ld | apply w_fa); iterate 3 exact rfl) | ((apply w_boxa); iterate 2 exact rfl) | (apply w_ldb; iterate 5 exact rfl) | (apply w_build1; exact rfl; exact rfl; (exact one_own rfl True.intro)) | (apply w_alst; iterate 2 exact rfl) | (apply w_stst; iterate 5 exact rfl))
  refine AWp.loop (ι := Nat) (fun n => ⟨56, [(1, .i k), (4, .optr 1 0), (5, .optr 3 0), (12, .intss ts), (13, .i ts.length), (14, .i n)]⟩) (fun n => [.bx 50 [.intss ts], .bx 50 [.val (.slice none 0 0)], .sls 22 2 (derL k ts n), .bx 50 [.own 2]]) (fun n => n ≤ ts.length) (fun n => ts.length - n) 0 (by omega) ⟨lee rfl (by (repeat (first | exact le_nil | refine le_eq rfl rfl ?_))), by (repeat (first | exact lo_nil | refine lo_eq rfl ?_)), rfl, rfl⟩ ?_
  rintro n n0
  have dl := derL_len k ts n
  by_cases hn : n < ts.length
  · obtain ⟨q1, q2, q3, q4, _⟩ := (isPo_of h).2 n hn
    have hkl : (k : Int) < (gets ts (n : Nat)).length := by omega
    by_cases hp : 0 < geti (gets ts (n : Nat)) (k : Nat)
    · have hm : 0 ≤ geti (gets ts (n : Nat)) 2 * geti (gets ts (n : Nat)) (k : Nat) ∧ geti (gets ts (n : Nat)) 2 * geti (gets ts (n : Nat)) (k : Nat) ≤ 3326400 := by
        rw [Int.mul_comm]
        rcases hk01 with rfl | rfl
        · exact mulTB (by simp only [Int.natCast_zero]; omega) q4
        · exact mulTB (by simp only [Int.natCast_one]; omega) q4
      repeat' (first | (apply AOps.nil; try simp only [List.nil_append, List.cons_append, List.set_cons_zero, List.set_cons_succ, List.length_cons, List.length_nil, Nat.reduceAdd, AV.sh, AV.sh1, AV.sh0, AO.sh, List.map_cons, List.map_nil, Nat.zero_add, Nat.add_zero, setAll]) | (apply w_move; exact rfl; exact rfl) | (apply w_assign; exact rfl; exact rfl) | apply AWp.seq | apply AWp.region | ((apply AWp.condP; exact rfl) <;> intro h) | apply AWp.block | apply AWp.exit | apply AWp.skip | omega | ((first | apply w_lss | apply w_gtr | apply w_idx | apply w_ld); iterate 3 exact rfl) | ((first | apply w_idxs | apply w_lds); iterate 3 exact rfl))
      refine AWp.regionG [] (by kernel_rfl) (envC := ⟨56, [(1, .i k), (4, .optr 1 0), (5, .optr 3 0), (8, .own 4), (12, .intss ts), (13, .i ts.length), (14, .i n)]⟩) (osC := [.bx 50 [.intss ts], .bx 50 [.val (.slice none 0 0)], .sls 22 2 (derL k ts n), .bx 50 [.own 2], .sli 2 [geti (gets ts (n : Nat)) 0, geti (gets ts (n : Nat)) 1, geti (gets ts (n : Nat)) 2 * geti (gets ts (n : Nat)) (k : Nat) % 55441]]) rfl rfl ?_ ?_
      · repeat' (first | (apply AOps.nil; try simp only [List.nil_append, List.cons_append, List.set_cons_zero, List.set_cons_succ, List.length_cons, List.length_nil, Nat.reduceAdd, AV.sh, AV.sh1, AV.sh0, AO.sh, List.map_cons, List.map_nil, Nat.zero_add, Nat.add_zero, setAll]) | (apply w_move; exact rfl; exact rfl) | (apply w_assign; exact rfl; exact rfl) | ((apply w_bs3); iterate 4 exact rfl) | apply AllOfG.nil | (apply AllOfG.consS; exact rfl; exact rfl) | (apply AAnyG.takeW; exact rfl; exact rfl; kernel_rfl; kernel_rfl) | (apply AAnyG.takeL; exact rfl; exact rfl; kernel_rfl) | (apply AAnyG.all; exact rfl) | (apply AAnyG.done; exact rfl) | omega | ((first | apply w_mul | apply w_idx | apply w_ld); iterate 3 exact rfl) | (apply w_rem; exact rfl; exact rfl; exact rfl; (focus (omega; done)); (focus (omega; done))) | (apply inI_of <;> omega))
        all_goals (apply Or.inl; refine ⟨lee rfl ?_, ?_, rfl, rfl⟩; (focus ((repeat (first | exact le_nil | refine le_eq rfl rfl ?_)); done)); (focus ((repeat (first | exact lo_nil | refine lo_eq rfl ?_)); done)))
      have hkl3 : (k : Int) < ([geti (gets ts (n : Nat)) 0, geti (gets ts (n : Nat)) 1, geti (gets ts (n : Nat)) 2 * geti (gets ts (n : Nat)) (k : Nat) % 55441] : List Int).length := by simp only [List.length_cons, List.length_nil]; omega
      have e3 : geti [geti (gets ts (n : Nat)) 0, geti (gets ts (n : Nat)) 1, geti (gets ts (n : Nat)) 2 * geti (gets ts (n : Nat)) (k : Nat) % 55441] (((k : Int).toNat : Nat) : Int) = geti (gets ts (n : Nat)) (k : Nat) := by
        rcases hk01 with rfl | rfl <;> rfl
      have hin : inI (geti [geti (gets ts (n : Nat)) 0, geti (gets ts (n : Nat)) 1, geti (gets ts (n : Nat)) 2 * geti (gets ts (n : Nat)) (k : Nat) % 55441] (((k : Int).toNat : Nat) : Int) - 1) := by
        rw [e3]
        rcases hk01 with rfl | rfl
        · simp only [Int.natCast_zero] at *; unfold inI; omega
        · simp only [Int.natCast_one] at *; unfold inI; omega
      have ed : derL k ts n ++ [[geti (gets ts (n : Nat)) 0, geti (gets ts (n : Nat)) 1, geti (gets ts (n : Nat)) 2 * geti (gets ts (n : Nat)) (k : Nat) % 55441].set (k : Int).toNat (geti [geti (gets ts (n : Nat)) 0, geti (gets ts (n : Nat)) 1, geti (gets ts (n : Nat)) 2 * geti (gets ts (n : Nat)) (k : Nat) % 55441] (((k : Int).toNat : Nat) : Int) - 1)] = derL k ts (n + 1) := by
        rw [e3, derL, if_pos hp]
        unfold derT
        rcases hk01 with rfl | rfl
        · rw [Int.mul_comm]; rfl
        · rw [Int.mul_comm]; rfl
      repeat' (first | (apply AOps.nil; try simp only [List.nil_append, List.cons_append, List.set_cons_zero, List.set_cons_succ, List.length_cons, List.length_nil, Nat.reduceAdd, AV.sh, AV.sh1, AV.sh0, AO.sh, List.map_cons, List.map_nil, Nat.zero_add, Nat.add_zero, setAll]) | (apply w_move; exact rfl; exact rfl) | apply AWp.seq | apply AWp.region | ((first | apply w_bsr1 | apply w_add | apply w_sub | apply w_idx | apply w_ld | apply w_fa); iterate 3 exact rfl) | (apply w_appr; exact rfl; exact rfl; exact rfl; exact rfl; exact rfl; exact rfl; exact rfl; rotate_left 1; simp only [Env.mp, List.map_cons, List.map_nil, List.set_cons_zero, List.set_cons_succ, AV.kill, AV.kill1, AO.kill, AV.rin, AV.rin1, AV.noRow, AV.noRow1, AO.via, reduceIte, Nat.reduceEqDiff, Nat.reduceLT, Env.up, Nat.zero_ne_one, Nat.one_ne_zero, Nat.reduceAdd, List.cons_append, List.nil_append]; rotate_left 1) | exact hin | omega | (apply w_idxo; exact rfl; exact rfl; (exact .sli rfl); exact rfl) | (apply w_ldo; iterate 4 exact rfl) | (apply w_ldb; iterate 5 exact rfl) | (apply w_sti; exact rfl; exact rfl; rotate_left 1; exact rfl; rotate_left 2) | (apply w_stbo; exact rfl; exact rfl; exact rfl; exact rfl; exact rfl; exact True.intro) | (apply inI_of <;> omega))
      exact ⟨n + 1, hn, by omega, ⟨lee rfl (by (repeat (first | exact le_nil | refine le_eq rfl rfl ?_))), by (repeat (first | exact lo_nil | refine lo_eq rfl ?_ | refine lo_eq (congrArg (AO.sls _ _) (ed)) ?_)), rfl, rfl⟩⟩
    · have hd : derL k ts (n + 1) = derL k ts n := by rw [derL, if_neg hp]
      repeat' (first | (apply AOps.nil; try simp only [List.nil_append, List.cons_append, List.set_cons_zero, List.set_cons_succ, List.length_cons, List.length_nil, Nat.reduceAdd, AV.sh, AV.sh1, AV.sh0, AO.sh, List.map_cons, List.map_nil, Nat.zero_add, Nat.add_zero, setAll]) | (apply w_move; exact rfl; exact rfl) | (apply w_assign; exact rfl; exact rfl) | apply AWp.seq | apply AWp.region | ((apply AWp.condP; exact rfl) <;> intro h) | apply AWp.block | apply AWp.exit | apply AWp.skip | (apply AWp.regionQ; kernel_rfl; kernel_rfl) | omega | ((first | apply w_lss | apply w_gtr | apply w_add | apply w_idx | apply w_ld); iterate 3 exact rfl) | ((first | apply w_idxs | apply w_lds); iterate 3 exact rfl) | (apply inI_of <;> omega))
      exact ⟨n + 1, hn, by omega, ⟨lee rfl (by (repeat (first | exact le_nil | refine le_eq rfl rfl ?_))), by (repeat (first | exact lo_nil | refine lo_eq rfl ?_ | refine lo_eq (congrArg (AO.sls _ _) (hd.symm)) ?_)), rfl, rfl⟩⟩
  · have e : n = ts.length := by omega
    subst e
    have hst := derL_strict h hk01 ts.length (Nat.le_refl _)
    have hTB : ∀ d ∈ derL k ts ts.length, TB d := fun d hd => by
      have hh := der_ok h hk01 (Nat.le_refl _) d hd
      have h1 := hh.1
      unfold TOk at h1
      exact ⟨h1.1, by omega, by omega⟩
    by_cases hz : derL k ts ts.length = []
    · rw [hz]
      have hsz := fun T T2 => sortZ_c T T2 (.func (.func 89) #[] #[])
      repeat' (first | (apply AOps.nil; try simp only [List.nil_append, List.cons_append, List.set_cons_zero, List.set_cons_succ, List.length_cons, List.length_nil, Nat.reduceAdd, AV.sh, AV.sh1, AV.sh0, AO.sh, List.map_cons, List.map_nil, Nat.zero_add, Nat.add_zero, setAll]) | apply AWp.seq | apply AWp.region | ((apply AWp.condP; exact rfl) <;> intro h) | apply AWp.block | apply AWp.ret | apply AWp.exit | apply AWp.skip | (apply w_callu [2] (hsz _ _); (exact handed1 rfl True.intro); (focus ((repeat (first | exact imu_nil | refine imu_cons rfl (.val _) ?_ | refine imu_cons rfl (.own rfl) ?_)); done)); rintro v os0 ⟨rfl, rfl⟩; try simp only [List.nil_append, List.cons_append, List.set_cons_zero, List.set_cons_succ, List.length_cons, List.length_nil, Nat.reduceAdd, AV.sh, AV.sh1, AV.sh0, AO.sh, List.map_cons, List.map_nil, Nat.zero_add, Nat.add_zero, setAll]) | omega | ((first | apply w_lss | apply w_ld | apply w_fa); iterate 3 exact rfl) | (apply w_ldb; iterate 5 exact rfl) | (apply w_ldst; iterate 5 exact rfl) | (apply w_stst; iterate 5 exact rfl))
      exact ⟨_, _, _, .c1 Try.results60 rfl rfl rfl, .agg1 (.sls rfl), rfl, rfl⟩
    · have hpos : 0 < (derL k ts ts.length).length := List.length_pos_iff.2 hz
      repeat' (first | (apply AOps.nil; try simp only [List.nil_append, List.cons_append, List.set_cons_zero, List.set_cons_succ, List.length_cons, List.length_nil, Nat.reduceAdd, AV.sh, AV.sh1, AV.sh0, AO.sh, List.map_cons, List.map_nil, Nat.zero_add, Nat.add_zero, setAll]) | apply AWp.seq | apply AWp.region | ((apply AWp.condP; exact rfl) <;> intro h) | apply AWp.block | apply AWp.exit | apply AWp.skip | omega | ((first | apply w_lss | apply w_ld | apply w_fa); iterate 3 exact rfl) | (apply w_ldb; iterate 5 exact rfl))
      refine w_sortg cmpW_ok hTB ⟨hpos, by omega⟩ rfl rfl rfl fun idx hp hs => ?_
      have hsi := sorted_idx hp hs
      rw [sorted_eq hsi.1 hsi.2 hst]
      simp only [Env.mp, List.map_cons, List.map_nil, List.set_cons_zero, List.set_cons_succ, AV.kill, AV.kill1, AO.kill, AV.lose, AV.lose1, List.map_append, map_orow_kill, AV.noRow, AV.noRow1, AO.via, reduceIte, Nat.reduceEqDiff, Nat.reduceLT, Env.up, Nat.zero_ne_one, Nat.one_ne_zero, Nat.reduceAdd, List.cons_append, List.nil_append]
      repeat' (first | (apply AOps.nil; try simp only [List.nil_append, List.cons_append, List.set_cons_zero, List.set_cons_succ, List.length_cons, List.length_nil, Nat.reduceAdd, AV.sh, AV.sh1, AV.sh0, AO.sh, List.map_cons, List.map_nil, Nat.zero_add, Nat.add_zero, setAll]) | apply AWp.seq | apply AWp.region | apply AWp.ret | (apply w_ldst; iterate 5 exact rfl) | (apply w_stst; iterate 5 exact rfl))
      exact ⟨_, _, _, .c1 Try.results60 rfl rfl rfl, .agg1 (.sls rfl), rfl, rfl⟩
end Go.Proofs.Ytifkgmbghcmdeaa
/-
  Local algebras: critical points. No condition.
-/
namespace Go.Proofs.Ytifkgmbghcmdeaa
open Go Go.RowKit
attribute [local irreducible] AWp AOps ResIs Ret1 QOp LOp COp AFnV AFn Imms LeE LeO
set_option maxHeartbeats 1000000
set_option linter.unusedSimpArgs false
set_option linter.unusedVariables false

theorem der_po {f : List (List Int)} (h : isPo f = true) {k : Nat} (hk : k = 0 ∨ k = 1) : isPo (derL k f f.length) = true := by
  have hl := derL_len k f f.length
  have hl2 := (isPo_of h).1
  rw [isPo_all fun j hj => ?_]
  · simp; omega
  · have e : gets (derL k f f.length) (j : Nat) = (derL k f f.length)[j] := by simp [gets, List.getD_eq_getElem?_getD, hj]
    have hm : (derL k f f.length)[j] ∈ derL k f f.length := List.getElem_mem hj
    obtain ⟨⟨a1, a2, a3, a4⟩, a5, a6⟩ := der_ok h hk (Nat.le_refl _) _ hm
    unfold PR
    rw [e]
    refine ⟨a1, by omega, by omega, by omega, fun h0 => ?_⟩
    have e2 : gets (derL k f f.length) ((j : Int) - 1) = (derL k f f.length)[j - 1] := by
      have : ((j : Int) - 1).toNat = j - 1 := by omega
      simp [gets, this, List.getD_eq_getElem?_getD, show j - 1 < (derL k f f.length).length by omega]
    rw [e2]
    have hp := (List.pairwise_iff_getElem.1 (derL_strict h hk f.length (Nat.le_refl _))) (j - 1) j (by omega) hj (by omega)
    rw [cmpW_lt] at hp
    unfold Bef
    omega
theorem der_low {f : List (List Int)} (h : isPo f = true) (hlow : lowB f 1 = false) {k : Nat} (hk : k = 0 ∨ k = 1) : lowB (derL k f f.length) 0 = false := by
  unfold lowB at *
  rw [decide_eq_false_iff_not] at *
  rintro ⟨h0, h1⟩
  have hm : gets (derL k f f.length) 0 ∈ derL k f f.length := by
    have e : gets (derL k f f.length) 0 = (derL k f f.length)[0] := by simp [gets, List.getD_eq_getElem?_getD, h0]
    rw [e]; exact List.getElem_mem h0
  obtain ⟨m, m1, m2, e⟩ := derL_mem k f f.length _ hm
  have ho := (poO_of h).1.o m m1
  have e2 : geti (derT k (gets f (m : Nat))) 0 + geti (derT k (gets f (m : Nat))) 1 = geti (gets f (m : Nat)) 0 + geti (gets f (m : Nat)) 1 - 1 := by
    unfold derT
    rcases hk with rfl | rfl
    · simp only [if_true]
      show geti (gets f (m : Nat)) 0 - 1 + geti (gets f (m : Nat)) 1 = _
      omega
    · simp only [Nat.one_ne_zero, if_false]
      show geti (gets f (m : Nat)) 0 + (geti (gets f (m : Nat)) 1 - 1) = _
      omega
  rw [e, e2] at h1
  exact hlow ⟨by omega, by omega⟩
/-- The two partial derivatives. -/
def dr0 (f : List (List Int)) : List (List Int) := derL 0 f f.length
def dr1 (f : List (List Int)) : List (List Int) := derL 1 f f.length
/-- The list of which the local dimension is taken. -/
def critL (f : List (List Int)) (own : Bool) : List (List (List Int)) := if own then [dr0 f, dr1 f, f] else [dr0 f, dr1 f]
noncomputable def crE (f : List (List Int)) (own : Bool) : Int := if isPo f = false then 1 else if lowB f 1 then 5 else locE (isLd (critL f own))
noncomputable def crV (f : List (List Int)) (own : Bool) : Int := if isPo f = false then 0 else if lowB f 1 then 0 else sumP (locL (isLd (critL f own))) (locL (isLd (critL f own))).length
theorem low_0 {f : List (List Int)} (h : lowB f 1 = false) : lowB f 0 = false := by
  unfold lowB at *
  rw [decide_eq_false_iff_not] at *
  exact fun ⟨a, b⟩ => h ⟨a, by omega⟩
theorem crit_mem {f : List (List Int)} (h : isPo f = true) (hlow : lowB f 1 = false) : ∀ g, g = dr0 f ∨ g = dr1 f ∨ g = f → isPo g = true ∧ lowB g 0 = false := by
  rintro g (rfl | rfl | rfl)
  · exact ⟨der_po h (.inl rfl), der_low h hlow (.inl rfl)⟩
  · exact ⟨der_po h (.inr rfl), der_low h hlow (.inr rfl)⟩
  · exact ⟨h, low_0 hlow⟩
theorem crit_sub {f g : List (List Int)} {own : Bool} (h : g ∈ critL f own) : g = dr0 f ∨ g = dr1 f ∨ g = f := by
  unfold critL at h
  cases own with
  | true => simpa using h
  | false =>
    simp at h
    rcases h with h | h
    · exact .inl h
    · exact .inr (.inl h)
theorem lcs_crit {f : List (List Int)} (h : isPo f = true) (hlow : lowB f 1 = false) {fs : List (List (List Int))} (own : Bool) (hl : 1 ≤ fs.length ∧ fs.length ≤ 3) (hm : ∀ g, g ∈ fs ↔ g ∈ critL f own) : lcsE fs = crE f own ∧ sumP (lcsL fs) (lcsL fs).length = crV f own := by
  have hin : ∀ g ∈ fs, isPo g = true ∧ lowB g 0 = false := fun g hg => crit_mem h hlow g (crit_sub ((hm g).1 hg))
  have e : isLd fs = isLd (critL f own) := by funext p; exact ld_perm hm p
  have h1 : fs.all isPo = true := List.all_eq_true.2 fun g hg => (hin g hg).1
  have h3 : fs.any (fun f => lowB f 0) = false := List.any_eq_false.2 fun g hg => by rw [(hin g hg).2]; decide
  unfold lcsE lcsL crE crV
  rw [h1, h3, h, hlow, e]
  simp [hl]

set_option maxHeartbeats 8000000 in
theorem l17Critical_c (f : List (List Int)) (own : Bool) : AFnV Try.prog 57 [.agg [.intss f], .b own] (.tuple #[.int .i64 (crV f own), .int .i64 (crE f own)]) := by
  have q1 := l17Is_c f
  cases h : isPo f with
  | false =>
    have e1 : crE f own = 1 := by unfold crE; rw [if_pos h]
    have e2 : crV f own = 0 := by unfold crV; rw [if_pos h]
    rw [e1, e2]
    rw [h] at q1
    (refine AFnV.start Try.func57 Try.ntmps57 rfl (by kernel_rfl) fun hk => ?_; simp only [Env.start, enumF, List.length_cons, List.length_nil, Nat.reduceAdd, Nat.reduceSub, List.cons_append, List.nil_append])
    repeat' (first | (apply AOps.nil; try simp only [List.nil_append, List.cons_append, List.set_cons_zero, List.set_cons_succ, List.length_cons, List.length_nil, Nat.reduceAdd, AV.sh, AV.sh1, AV.sh0, AO.sh, List.map_cons, List.map_nil, Nat.zero_add, Nat.add_zero, setAll]) | (apply w_assign; exact rfl; exact rfl) | apply AWp.seq | apply AWp.region | (apply AWp.condT; exact rfl) | apply AWp.block | apply AWp.ret | (apply w_call (q1); exact rfl; exact rfl; focus ((repeat (first | exact im_nil | refine im_cons rfl (im_agg1 (.intss _)) ?_)); done)) | ((first | apply w_not | apply w_boxa); iterate 2 exact rfl) | (apply w_ldst; iterate 5 exact rfl))
    all_goals exact .intint Try.results57 rfl rfl rfl rfl
  | true =>
    rw [h] at q1
    have q2 := l17Low_c f h 2
    rw [show (2 : Int) - 1 = 1 from rfl] at q2
    cases hlow : lowB f 1 with
    | true =>
      have e1 : crE f own = 5 := by unfold crE; rw [if_neg (by simp [h]), if_pos hlow]
      have e2 : crV f own = 0 := by unfold crV; rw [if_neg (by simp [h]), if_pos hlow]
      rw [e1, e2]
      rw [hlow] at q2
      (refine AFnV.start Try.func57 Try.ntmps57 rfl (by kernel_rfl) fun hk => ?_; simp only [Env.start, enumF, List.length_cons, List.length_nil, Nat.reduceAdd, Nat.reduceSub, List.cons_append, List.nil_append])
      repeat' (first | (apply AOps.nil; try simp only [List.nil_append, List.cons_append, List.set_cons_zero, List.set_cons_succ, List.length_cons, List.length_nil, Nat.reduceAdd, AV.sh, AV.sh1, AV.sh0, AO.sh, List.map_cons, List.map_nil, Nat.zero_add, Nat.add_zero, setAll]) | (apply w_assign; exact rfl; exact rfl) | apply AWp.seq | apply AWp.region | (apply AWp.condT; exact rfl) | (apply AWp.condF; exact rfl) | apply AWp.block | apply AWp.ret | (apply w_call (q1); exact rfl; exact rfl; focus ((repeat (first | exact im_nil | refine im_cons rfl (im_agg1 (.intss _)) ?_)); done)) | (apply w_call (q2); exact rfl; exact rfl; focus ((repeat (first | exact im_nil | refine im_cons rfl (.val _) ?_ | refine im_cons rfl (im_agg1 (.intss _)) ?_)); done)) | ((first | apply w_not | apply w_boxa); iterate 2 exact rfl) | (apply w_ldst; iterate 5 exact rfl))
      all_goals exact .intint Try.results57 rfl rfl rfl rfl
    | false =>
      rw [hlow] at q2
      have e1 : crE f own = locE (isLd (critL f own)) := by unfold crE; rw [if_neg (by simp [h]), if_neg (by simp [hlow])]
      have e2 : crV f own = sumP (locL (isLd (critL f own))) (locL (isLd (critL f own))).length := by unfold crV; rw [if_neg (by simp [h]), if_neg (by simp [hlow])]
      rw [e1, e2]
      have p0 := l17Partial_c f h 0 (.inl rfl)
      have p1 := l17Partial_c f h 1 (.inr rfl)
      have hl := l17Local_c (critL f own) (fun g hg => poO_of (crit_mem h hlow g (crit_sub hg)).1) (by unfold critL; split <;> simp)
      obtain ⟨t1, t2⟩ := loc_at (isLd (critL f own))
      have ht := l17Total_c (locL (isLd (critL f own))) t2 (by omega)
      cases own with
      | false =>
        have hl' : AFn Try.prog 49 [.ro (polsRo [dr0 f, dr1 f])] (IsRC 2 (locL (isLd (critL f false))) (locE (isLd (critL f false)))) := hl
        rcases locE_or (isLd (critL f false)) with hE | hE
        all_goals rw [hE] at hl'
        all_goals rw [hE]
        · (refine AFnV.start Try.func57 Try.ntmps57 rfl (by kernel_rfl) fun hk => ?_; simp only [Env.start, enumF, List.length_cons, List.length_nil, Nat.reduceAdd, Nat.reduceSub, List.cons_append, List.nil_append])
          repeat' (first | (apply AOps.nil; try simp only [List.nil_append, List.cons_append, List.set_cons_zero, List.set_cons_succ, List.length_cons, List.length_nil, Nat.reduceAdd, AV.sh, AV.sh1, AV.sh0, AO.sh, List.map_cons, List.map_nil, Nat.zero_add, Nat.add_zero, setAll]) | (apply w_assign; exact rfl; exact rfl) | apply AWp.seq | apply AWp.region | (apply AWp.condF; exact rfl) | apply AWp.block | apply AWp.skip | (apply w_call (q1); exact rfl; exact rfl; focus ((repeat (first | exact im_nil | refine im_cons rfl (im_agg1 (.intss _)) ?_)); done)) | (apply w_call (q2); exact rfl; exact rfl; focus ((repeat (first | exact im_nil | refine im_cons rfl (.val _) ?_ | refine im_cons rfl (im_agg1 (.intss _)) ?_)); done)) | ((first | apply w_not | apply w_boxa); iterate 2 exact rfl) | (apply w_ldst; iterate 5 exact rfl))
          refine AWp.regionA (by kernel_rfl) (envC := ⟨36, [(1, .b false), (2, .optr 0 0), (6, .own 3)]⟩) (osC := [.bx 50 [.intss f], .sls 22 2 (dr0 f), .sls 22 2 (dr1 f), .slr 50 [.own 1, .own 2]]) rfl rfl ?_ ?_
          · repeat' (first | (apply AOps.nil; try simp only [List.nil_append, List.cons_append, List.set_cons_zero, List.set_cons_succ, List.length_cons, List.length_nil, Nat.reduceAdd, AV.sh, AV.sh1, AV.sh0, AO.sh, List.map_cons, List.map_nil, Nat.zero_add, Nat.add_zero, setAll]) | (apply w_assign; exact rfl; exact rfl) | ((apply w_bspl2); iterate 3 exact rfl) | (apply w_callm (p0); (focus ((repeat (first | exact im_nil | refine im_cons rfl (.val _) ?_ | refine im_cons rfl (im_agg1 (.intss _)) ?_)); done)); rintro r os0 ⟨rfl, rfl⟩; try simp only [List.nil_append, List.cons_append, List.set_cons_zero, List.set_cons_succ, List.length_cons, List.length_nil, Nat.reduceAdd, AV.sh, AV.sh1, AV.sh0, AO.sh, List.map_cons, List.map_nil, Nat.zero_add, Nat.add_zero, setAll]) | (apply w_callm (p1); (focus ((repeat (first | exact im_nil | refine im_cons rfl (.val _) ?_ | refine im_cons rfl (im_agg1 (.intss _)) ?_)); done)); rintro r os0 ⟨rfl, rfl⟩; try simp only [List.nil_append, List.cons_append, List.set_cons_zero, List.set_cons_succ, List.length_cons, List.length_nil, Nat.reduceAdd, AV.sh, AV.sh1, AV.sh0, AO.sh, List.map_cons, List.map_nil, Nat.zero_add, Nat.add_zero, setAll]) | (apply w_ldst; iterate 5 exact rfl) | apply AllOf.nil | (apply AllOf.cons; exact rfl) | (apply AAny.take; exact rfl; exact rfl; kernel_rfl; kernel_rfl) | (apply AAny.all; exact rfl) | (apply AAny.done; exact rfl))
            all_goals (apply Or.inl; refine ⟨lee rfl ?_, ?_, rfl, rfl⟩; (focus ((repeat (first | exact le_nil | refine le_eq rfl rfl ?_)); done)); (focus ((repeat (first | exact lo_nil | refine lo_eq rfl ?_)); done)))
          repeat' (first | (apply AOps.nil; try simp only [List.nil_append, List.cons_append, List.set_cons_zero, List.set_cons_succ, List.length_cons, List.length_nil, Nat.reduceAdd, AV.sh, AV.sh1, AV.sh0, AO.sh, List.map_cons, List.map_nil, Nat.zero_add, Nat.add_zero, setAll]) | (apply w_move; exact rfl; exact rfl) | (apply w_assign; exact rfl; exact rfl) | apply AWp.seq | apply AWp.region | ((apply AWp.condP; exact rfl) <;> intro h) | (apply AWp.condF; exact rfl) | apply AWp.ret | apply AWp.skip | ((first | apply w_neq | apply w_extv); iterate 3 exact rfl) | (apply w_callm (hl'); (focus ((repeat (first | exact im_nil | refine im_cons rfl (.sem _ (reads_pll rfl (pll_cons (.sls rfl) (pll_cons (.sls rfl) pll_nil)))) ?_)); done)); rintro r os0 ⟨rfl, rfl⟩; try simp only [List.nil_append, List.cons_append, List.set_cons_zero, List.set_cons_succ, List.length_cons, List.length_nil, Nat.reduceAdd, AV.sh, AV.sh1, AV.sh0, AO.sh, List.map_cons, List.map_nil, Nat.zero_add, Nat.add_zero, setAll]) | (apply w_call (ht); exact rfl; exact rfl; focus ((repeat (first | exact im_nil | refine im_cons rfl (.sli rfl) ?_)); done)) | ((apply w_ext); iterate 3 exact rfl) | omega)
          all_goals exact .intint Try.results57 rfl rfl rfl rfl
        · rw [locL_n (by rw [hE]; decide)] at hl' ht ⊢
          (refine AFnV.start Try.func57 Try.ntmps57 rfl (by kernel_rfl) fun hk => ?_; simp only [Env.start, enumF, List.length_cons, List.length_nil, Nat.reduceAdd, Nat.reduceSub, List.cons_append, List.nil_append])
          repeat' (first | (apply AOps.nil; try simp only [List.nil_append, List.cons_append, List.set_cons_zero, List.set_cons_succ, List.length_cons, List.length_nil, Nat.reduceAdd, AV.sh, AV.sh1, AV.sh0, AO.sh, List.map_cons, List.map_nil, Nat.zero_add, Nat.add_zero, setAll]) | (apply w_assign; exact rfl; exact rfl) | apply AWp.seq | apply AWp.region | (apply AWp.condF; exact rfl) | apply AWp.block | apply AWp.skip | (apply w_call (q1); exact rfl; exact rfl; focus ((repeat (first | exact im_nil | refine im_cons rfl (im_agg1 (.intss _)) ?_)); done)) | (apply w_call (q2); exact rfl; exact rfl; focus ((repeat (first | exact im_nil | refine im_cons rfl (.val _) ?_ | refine im_cons rfl (im_agg1 (.intss _)) ?_)); done)) | ((first | apply w_not | apply w_boxa); iterate 2 exact rfl) | (apply w_ldst; iterate 5 exact rfl))
          refine AWp.regionA (by kernel_rfl) (envC := ⟨36, [(1, .b false), (2, .optr 0 0), (6, .own 3)]⟩) (osC := [.bx 50 [.intss f], .sls 22 2 (dr0 f), .sls 22 2 (dr1 f), .slr 50 [.own 1, .own 2]]) rfl rfl ?_ ?_
          · repeat' (first | (apply AOps.nil; try simp only [List.nil_append, List.cons_append, List.set_cons_zero, List.set_cons_succ, List.length_cons, List.length_nil, Nat.reduceAdd, AV.sh, AV.sh1, AV.sh0, AO.sh, List.map_cons, List.map_nil, Nat.zero_add, Nat.add_zero, setAll]) | (apply w_assign; exact rfl; exact rfl) | ((apply w_bspl2); iterate 3 exact rfl) | (apply w_callm (p0); (focus ((repeat (first | exact im_nil | refine im_cons rfl (.val _) ?_ | refine im_cons rfl (im_agg1 (.intss _)) ?_)); done)); rintro r os0 ⟨rfl, rfl⟩; try simp only [List.nil_append, List.cons_append, List.set_cons_zero, List.set_cons_succ, List.length_cons, List.length_nil, Nat.reduceAdd, AV.sh, AV.sh1, AV.sh0, AO.sh, List.map_cons, List.map_nil, Nat.zero_add, Nat.add_zero, setAll]) | (apply w_callm (p1); (focus ((repeat (first | exact im_nil | refine im_cons rfl (.val _) ?_ | refine im_cons rfl (im_agg1 (.intss _)) ?_)); done)); rintro r os0 ⟨rfl, rfl⟩; try simp only [List.nil_append, List.cons_append, List.set_cons_zero, List.set_cons_succ, List.length_cons, List.length_nil, Nat.reduceAdd, AV.sh, AV.sh1, AV.sh0, AO.sh, List.map_cons, List.map_nil, Nat.zero_add, Nat.add_zero, setAll]) | (apply w_ldst; iterate 5 exact rfl) | apply AllOf.nil | (apply AllOf.cons; exact rfl) | (apply AAny.take; exact rfl; exact rfl; kernel_rfl; kernel_rfl) | (apply AAny.all; exact rfl) | (apply AAny.done; exact rfl))
            all_goals (apply Or.inl; refine ⟨lee rfl ?_, ?_, rfl, rfl⟩; (focus ((repeat (first | exact le_nil | refine le_eq rfl rfl ?_)); done)); (focus ((repeat (first | exact lo_nil | refine lo_eq rfl ?_)); done)))
          repeat' (first | (apply AOps.nil; try simp only [List.nil_append, List.cons_append, List.set_cons_zero, List.set_cons_succ, List.length_cons, List.length_nil, Nat.reduceAdd, AV.sh, AV.sh1, AV.sh0, AO.sh, List.map_cons, List.map_nil, Nat.zero_add, Nat.add_zero, setAll]) | (apply w_move; exact rfl; exact rfl) | (apply w_assign; exact rfl; exact rfl) | apply AWp.seq | apply AWp.region | ((apply AWp.condP; exact rfl) <;> intro h) | (apply AWp.condF; exact rfl) | apply AWp.ret | apply AWp.skip | ((first | apply w_neq | apply w_extv); iterate 3 exact rfl) | (apply w_callm (hl'); (focus ((repeat (first | exact im_nil | refine im_cons rfl (.sem _ (reads_pll rfl (pll_cons (.sls rfl) (pll_cons (.sls rfl) pll_nil)))) ?_)); done)); rintro r os0 ⟨rfl, rfl⟩; try simp only [List.nil_append, List.cons_append, List.set_cons_zero, List.set_cons_succ, List.length_cons, List.length_nil, Nat.reduceAdd, AV.sh, AV.sh1, AV.sh0, AO.sh, List.map_cons, List.map_nil, Nat.zero_add, Nat.add_zero, setAll]) | (apply w_call (ht); exact rfl; exact rfl; focus ((repeat (first | exact im_nil | refine im_cons rfl (.sli rfl) ?_)); done)) | ((apply w_ext); iterate 3 exact rfl) | omega)
          all_goals exact .intint Try.results57 rfl rfl rfl rfl
      | true =>
        have hl' : AFn Try.prog 49 [.ro (polsRo [dr0 f, dr1 f, f])] (IsRC 2 (locL (isLd (critL f true))) (locE (isLd (critL f true)))) := hl
        rcases locE_or (isLd (critL f true)) with hE | hE
        all_goals rw [hE] at hl'
        all_goals rw [hE]
        · (refine AFnV.start Try.func57 Try.ntmps57 rfl (by kernel_rfl) fun hk => ?_; simp only [Env.start, enumF, List.length_cons, List.length_nil, Nat.reduceAdd, Nat.reduceSub, List.cons_append, List.nil_append])
          repeat' (first | (apply AOps.nil; try simp only [List.nil_append, List.cons_append, List.set_cons_zero, List.set_cons_succ, List.length_cons, List.length_nil, Nat.reduceAdd, AV.sh, AV.sh1, AV.sh0, AO.sh, List.map_cons, List.map_nil, Nat.zero_add, Nat.add_zero, setAll]) | (apply w_assign; exact rfl; exact rfl) | apply AWp.seq | apply AWp.region | (apply AWp.condF; exact rfl) | apply AWp.block | apply AWp.skip | (apply w_call (q1); exact rfl; exact rfl; focus ((repeat (first | exact im_nil | refine im_cons rfl (im_agg1 (.intss _)) ?_)); done)) | (apply w_call (q2); exact rfl; exact rfl; focus ((repeat (first | exact im_nil | refine im_cons rfl (.val _) ?_ | refine im_cons rfl (im_agg1 (.intss _)) ?_)); done)) | ((first | apply w_not | apply w_boxa); iterate 2 exact rfl) | (apply w_ldst; iterate 5 exact rfl))
          refine AWp.regionA (by kernel_rfl) (envC := ⟨36, [(1, .b true), (2, .optr 0 0), (6, .own 3)]⟩) (osC := [.bx 50 [.intss f], .sls 22 2 (dr0 f), .sls 22 2 (dr1 f), .slr 50 [.own 1, .own 2]]) rfl rfl ?_ ?_
          · repeat' (first | (apply AOps.nil; try simp only [List.nil_append, List.cons_append, List.set_cons_zero, List.set_cons_succ, List.length_cons, List.length_nil, Nat.reduceAdd, AV.sh, AV.sh1, AV.sh0, AO.sh, List.map_cons, List.map_nil, Nat.zero_add, Nat.add_zero, setAll]) | (apply w_assign; exact rfl; exact rfl) | ((apply w_bspl2); iterate 3 exact rfl) | (apply w_callm (p0); (focus ((repeat (first | exact im_nil | refine im_cons rfl (.val _) ?_ | refine im_cons rfl (im_agg1 (.intss _)) ?_)); done)); rintro r os0 ⟨rfl, rfl⟩; try simp only [List.nil_append, List.cons_append, List.set_cons_zero, List.set_cons_succ, List.length_cons, List.length_nil, Nat.reduceAdd, AV.sh, AV.sh1, AV.sh0, AO.sh, List.map_cons, List.map_nil, Nat.zero_add, Nat.add_zero, setAll]) | (apply w_callm (p1); (focus ((repeat (first | exact im_nil | refine im_cons rfl (.val _) ?_ | refine im_cons rfl (im_agg1 (.intss _)) ?_)); done)); rintro r os0 ⟨rfl, rfl⟩; try simp only [List.nil_append, List.cons_append, List.set_cons_zero, List.set_cons_succ, List.length_cons, List.length_nil, Nat.reduceAdd, AV.sh, AV.sh1, AV.sh0, AO.sh, List.map_cons, List.map_nil, Nat.zero_add, Nat.add_zero, setAll]) | (apply w_ldst; iterate 5 exact rfl) | apply AllOf.nil | (apply AllOf.cons; exact rfl) | (apply AAny.take; exact rfl; exact rfl; kernel_rfl; kernel_rfl) | (apply AAny.all; exact rfl) | (apply AAny.done; exact rfl))
            all_goals (apply Or.inl; refine ⟨lee rfl ?_, ?_, rfl, rfl⟩; (focus ((repeat (first | exact le_nil | refine le_eq rfl rfl ?_)); done)); (focus ((repeat (first | exact lo_nil | refine lo_eq rfl ?_)); done)))
          repeat' (first | (apply AOps.nil; try simp only [List.nil_append, List.cons_append, List.set_cons_zero, List.set_cons_succ, List.length_cons, List.length_nil, Nat.reduceAdd, AV.sh, AV.sh1, AV.sh0, AO.sh, List.map_cons, List.map_nil, Nat.zero_add, Nat.add_zero, setAll]) | (apply w_move; exact rfl; exact rfl) | (apply w_assign; exact rfl; exact rfl) | apply AWp.seq | apply AWp.region | ((apply AWp.condP; exact rfl) <;> intro h) | (apply AWp.condT; exact rfl) | apply AWp.ret | apply AWp.skip | ((apply w_bspl1); iterate 2 exact rfl) | ((first | apply w_neq | apply w_extv); iterate 3 exact rfl) | (apply w_apppl; exact rfl; exact rfl; exact rfl; exact rfl; exact rfl; (exact one_intss); (focus (decide; done)); exact rfl; exact rfl; exact rfl; simp only [Env.mp, List.map_cons, List.map_nil, List.set_cons_zero, List.set_cons_succ, AV.kill, AV.kill1, AO.kill, AV.noRow, AV.noRow1, AO.via, reduceIte, Nat.reduceEqDiff, Nat.reduceLT, Env.up, Nat.zero_ne_one, Nat.one_ne_zero, Nat.reduceAdd, List.cons_append, List.nil_append]) | (apply w_callm (hl'); (focus ((repeat (first | exact im_nil | refine im_cons rfl (.sem _ (reads_pll rfl (pll_cons (.sls rfl) (pll_cons (.sls rfl) (pll_cons (.intss _) pll_nil))))) ?_)); done)); rintro r os0 ⟨rfl, rfl⟩; try simp only [List.nil_append, List.cons_append, List.set_cons_zero, List.set_cons_succ, List.length_cons, List.length_nil, Nat.reduceAdd, AV.sh, AV.sh1, AV.sh0, AO.sh, List.map_cons, List.map_nil, Nat.zero_add, Nat.add_zero, setAll]) | (apply w_call (ht); exact rfl; exact rfl; focus ((repeat (first | exact im_nil | refine im_cons rfl (.sli rfl) ?_)); done)) | ((apply w_ext); iterate 3 exact rfl) | (apply w_ldst; iterate 5 exact rfl) | omega)
          all_goals exact .intint Try.results57 rfl rfl rfl rfl
        · rw [locL_n (by rw [hE]; decide)] at hl' ht ⊢
          (refine AFnV.start Try.func57 Try.ntmps57 rfl (by kernel_rfl) fun hk => ?_; simp only [Env.start, enumF, List.length_cons, List.length_nil, Nat.reduceAdd, Nat.reduceSub, List.cons_append, List.nil_append])
          repeat' (first | (apply AOps.nil; try simp only [List.nil_append, List.cons_append, List.set_cons_zero, List.set_cons_succ, List.length_cons, List.length_nil, Nat.reduceAdd, AV.sh, AV.sh1, AV.sh0, AO.sh, List.map_cons, List.map_nil, Nat.zero_add, Nat.add_zero, setAll]) | (apply w_assign; exact rfl; exact rfl) | apply AWp.seq | apply AWp.region | (apply AWp.condF; exact rfl) | apply AWp.block | apply AWp.skip | (apply w_call (q1); exact rfl; exact rfl; focus ((repeat (first | exact im_nil | refine im_cons rfl (im_agg1 (.intss _)) ?_)); done)) | (apply w_call (q2); exact rfl; exact rfl; focus ((repeat (first | exact im_nil | refine im_cons rfl (.val _) ?_ | refine im_cons rfl (im_agg1 (.intss _)) ?_)); done)) | ((first | apply w_not | apply w_boxa); iterate 2 exact rfl) | (apply w_ldst; iterate 5 exact rfl))
          refine AWp.regionA (by kernel_rfl) (envC := ⟨36, [(1, .b true), (2, .optr 0 0), (6, .own 3)]⟩) (osC := [.bx 50 [.intss f], .sls 22 2 (dr0 f), .sls 22 2 (dr1 f), .slr 50 [.own 1, .own 2]]) rfl rfl ?_ ?_
          · repeat' (first | (apply AOps.nil; try simp only [List.nil_append, List.cons_append, List.set_cons_zero, List.set_cons_succ, List.length_cons, List.length_nil, Nat.reduceAdd, AV.sh, AV.sh1, AV.sh0, AO.sh, List.map_cons, List.map_nil, Nat.zero_add, Nat.add_zero, setAll]) | (apply w_assign; exact rfl; exact rfl) | ((apply w_bspl2); iterate 3 exact rfl) | (apply w_callm (p0); (focus ((repeat (first | exact im_nil | refine im_cons rfl (.val _) ?_ | refine im_cons rfl (im_agg1 (.intss _)) ?_)); done)); rintro r os0 ⟨rfl, rfl⟩; try simp only [List.nil_append, List.cons_append, List.set_cons_zero, List.set_cons_succ, List.length_cons, List.length_nil, Nat.reduceAdd, AV.sh, AV.sh1, AV.sh0, AO.sh, List.map_cons, List.map_nil, Nat.zero_add, Nat.add_zero, setAll]) | (apply w_callm (p1); (focus ((repeat (first | exact im_nil | refine im_cons rfl (.val _) ?_ | refine im_cons rfl (im_agg1 (.intss _)) ?_)); done)); rintro r os0 ⟨rfl, rfl⟩; try simp only [List.nil_append, List.cons_append, List.set_cons_zero, List.set_cons_succ, List.length_cons, List.length_nil, Nat.reduceAdd, AV.sh, AV.sh1, AV.sh0, AO.sh, List.map_cons, List.map_nil, Nat.zero_add, Nat.add_zero, setAll]) | (apply w_ldst; iterate 5 exact rfl) | apply AllOf.nil | (apply AllOf.cons; exact rfl) | (apply AAny.take; exact rfl; exact rfl; kernel_rfl; kernel_rfl) | (apply AAny.all; exact rfl) | (apply AAny.done; exact rfl))
            all_goals (apply Or.inl; refine ⟨lee rfl ?_, ?_, rfl, rfl⟩; (focus ((repeat (first | exact le_nil | refine le_eq rfl rfl ?_)); done)); (focus ((repeat (first | exact lo_nil | refine lo_eq rfl ?_)); done)))
          repeat' (first | (apply AOps.nil; try simp only [List.nil_append, List.cons_append, List.set_cons_zero, List.set_cons_succ, List.length_cons, List.length_nil, Nat.reduceAdd, AV.sh, AV.sh1, AV.sh0, AO.sh, List.map_cons, List.map_nil, Nat.zero_add, Nat.add_zero, setAll]) | (apply w_move; exact rfl; exact rfl) | (apply w_assign; exact rfl; exact rfl) | apply AWp.seq | apply AWp.region | ((apply AWp.condP; exact rfl) <;> intro h) | (apply AWp.condT; exact rfl) | apply AWp.ret | apply AWp.skip | ((apply w_bspl1); iterate 2 exact rfl) | ((first | apply w_neq | apply w_extv); iterate 3 exact rfl) | (apply w_apppl; exact rfl; exact rfl; exact rfl; exact rfl; exact rfl; (exact one_intss); (focus (decide; done)); exact rfl; exact rfl; exact rfl; simp only [Env.mp, List.map_cons, List.map_nil, List.set_cons_zero, List.set_cons_succ, AV.kill, AV.kill1, AO.kill, AV.noRow, AV.noRow1, AO.via, reduceIte, Nat.reduceEqDiff, Nat.reduceLT, Env.up, Nat.zero_ne_one, Nat.one_ne_zero, Nat.reduceAdd, List.cons_append, List.nil_append]) | (apply w_callm (hl'); (focus ((repeat (first | exact im_nil | refine im_cons rfl (.sem _ (reads_pll rfl (pll_cons (.sls rfl) (pll_cons (.sls rfl) (pll_cons (.intss _) pll_nil))))) ?_)); done)); rintro r os0 ⟨rfl, rfl⟩; try simp only [List.nil_append, List.cons_append, List.set_cons_zero, List.set_cons_succ, List.length_cons, List.length_nil, Nat.reduceAdd, AV.sh, AV.sh1, AV.sh0, AO.sh, List.map_cons, List.map_nil, Nat.zero_add, Nat.add_zero, setAll]) | (apply w_call (ht); exact rfl; exact rfl; focus ((repeat (first | exact im_nil | refine im_cons rfl (.sli rfl) ?_)); done)) | ((apply w_ext); iterate 3 exact rfl) | (apply w_ldst; iterate 5 exact rfl) | omega)
          all_goals exact .intint Try.results57 rfl rfl rfl rfl
end Go.Proofs.Ytifkgmbghcmdeaa
/-
  The laws of Milnor and Tjurina numbers. No condition.
-/
namespace Go.Proofs.Ytifkgmbghcmdeaa
open Go Go.RowKit
attribute [local irreducible] AWp AOps ResIs Ret1 QOp LOp COp AFnV AFn Imms LeE LeO
set_option maxHeartbeats 1000000
set_option linter.unusedSimpArgs false
set_option linter.unusedVariables false

theorem implCrit {f : List (List Int)} (h : isPo f = true) (hlow : lowB f 1 = false) {fs : List (List (List Int))} (own : Bool) (hl : 1 ≤ fs.length ∧ fs.length ≤ 3) (hm : ∀ g, g ∈ fs ↔ g ∈ critL f own) :
    AFnV Try.prog 25 [.ro (polsRo fs)] (.tuple #[.int .i64 (crV f own), .int .i64 (crE f own)]) := by
  have q := implLocalDimension_c fs (by omega)
  obtain ⟨e1, e2⟩ := lcs_crit h hlow own hl hm
  rw [e1, e2] at q
  exact q
set_option maxHeartbeats 4000000 in
theorem implTjurina_c (f : List (List Int)) : AFnV Try.prog 32 [.agg [.intss f]] (.tuple #[.int .i64 (crV f true), .int .i64 (crE f true)]) := by
  have q1 := implIsPoly_c f
  cases h : isPo f with
  | false =>
    have e1 : crE f true = 1 := by unfold crE; rw [if_pos h]
    have e2 : crV f true = 0 := by unfold crV; rw [if_pos h]
    rw [e1, e2]
    rw [h] at q1
    (refine AFnV.start Try.func32 Try.ntmps32 rfl (by kernel_rfl) fun hk => ?_; simp only [Env.start, enumF, List.length_cons, List.length_nil, Nat.reduceAdd, Nat.reduceSub, List.cons_append, List.nil_append])
    repeat' (first | (apply AOps.nil; try simp only [List.nil_append, List.cons_append, List.set_cons_zero, List.set_cons_succ, List.length_cons, List.length_nil, Nat.reduceAdd, AV.sh, AV.sh1, AV.sh0, AO.sh, List.map_cons, List.map_nil, Nat.zero_add, Nat.add_zero, setAll]) | (apply w_assign; exact rfl; exact rfl) | apply AWp.seq | apply AWp.region | (apply AWp.condT; exact rfl) | apply AWp.ret | (apply w_call (q1); exact rfl; exact rfl; focus ((repeat (first | exact im_nil | refine im_cons rfl (im_agg1 (.intss _)) ?_)); done)) | ((first | apply w_not | apply w_boxa); iterate 2 exact rfl) | (apply w_ldst; iterate 5 exact rfl))
    all_goals exact .intint Try.results32 rfl rfl rfl rfl
  | true =>
    rw [h] at q1
    have q2 := hasTerm_c f h 1
    cases hlow : lowB f 1 with
    | true =>
      have e1 : crE f true = 5 := by unfold crE; rw [if_neg (by simp [h]), if_pos hlow]
      have e2 : crV f true = 0 := by unfold crV; rw [if_neg (by simp [h]), if_pos hlow]
      rw [e1, e2]
      rw [hlow] at q2
      (refine AFnV.start Try.func32 Try.ntmps32 rfl (by kernel_rfl) fun hk => ?_; simp only [Env.start, enumF, List.length_cons, List.length_nil, Nat.reduceAdd, Nat.reduceSub, List.cons_append, List.nil_append])
      repeat' (first | (apply AOps.nil; try simp only [List.nil_append, List.cons_append, List.set_cons_zero, List.set_cons_succ, List.length_cons, List.length_nil, Nat.reduceAdd, AV.sh, AV.sh1, AV.sh0, AO.sh, List.map_cons, List.map_nil, Nat.zero_add, Nat.add_zero, setAll]) | (apply w_assign; exact rfl; exact rfl) | apply AWp.seq | apply AWp.region | (apply AWp.condT; exact rfl) | (apply AWp.condF; exact rfl) | apply AWp.ret | apply AWp.skip | (apply w_call (q1); exact rfl; exact rfl; focus ((repeat (first | exact im_nil | refine im_cons rfl (im_agg1 (.intss _)) ?_)); done)) | (apply w_call (q2); exact rfl; exact rfl; focus ((repeat (first | exact im_nil | refine im_cons rfl (.val _) ?_ | refine im_cons rfl (im_agg1 (.intss _)) ?_)); done)) | ((first | apply w_not | apply w_boxa); iterate 2 exact rfl) | (apply w_ldst; iterate 5 exact rfl))
      all_goals exact .intint Try.results32 rfl rfl rfl rfl
    | false =>
      rw [hlow] at q2
      have p0 := partial_c f h 0 (.inl rfl)
      have p1 := partial_c f h 1 (.inr rfl)
      have hl := implCrit (fs := [f, dr0 f, dr1 f]) h hlow true (by simp) (fun g => by
        show g ∈ [f, dr0 f, dr1 f] ↔ g ∈ [dr0 f, dr1 f, f]
        simp only [List.mem_cons, List.not_mem_nil, or_false]
        constructor
        · rintro (e | e | e)
          · exact .inr (.inr e)
          · exact .inl e
          · exact .inr (.inl e)
        · rintro (e | e | e)
          · exact .inr (.inl e)
          · exact .inr (.inr e)
          · exact .inl e)
      (refine AFnV.start Try.func32 Try.ntmps32 rfl (by kernel_rfl) fun hk => ?_; simp only [Env.start, enumF, List.length_cons, List.length_nil, Nat.reduceAdd, Nat.reduceSub, List.cons_append, List.nil_append])
      repeat' (first | (apply AOps.nil; try simp only [List.nil_append, List.cons_append, List.set_cons_zero, List.set_cons_succ, List.length_cons, List.length_nil, Nat.reduceAdd, AV.sh, AV.sh1, AV.sh0, AO.sh, List.map_cons, List.map_nil, Nat.zero_add, Nat.add_zero, setAll]) | (apply w_assign; exact rfl; exact rfl) | apply AWp.seq | apply AWp.region | (apply AWp.condF; exact rfl) | apply AWp.skip | (apply w_call (q1); exact rfl; exact rfl; focus ((repeat (first | exact im_nil | refine im_cons rfl (im_agg1 (.intss _)) ?_)); done)) | (apply w_call (q2); exact rfl; exact rfl; focus ((repeat (first | exact im_nil | refine im_cons rfl (.val _) ?_ | refine im_cons rfl (im_agg1 (.intss _)) ?_)); done)) | ((first | apply w_not | apply w_boxa); iterate 2 exact rfl) | (apply w_ldst; iterate 5 exact rfl))
      refine AWp.regionA (by kernel_rfl) (envC := ⟨18, [(2, .i (crV f true)), (3, .i (crE f true))]⟩) (osC := []) rfl rfl ?_ ?_
      · repeat' (first | (apply AOps.nil; try simp only [List.nil_append, List.cons_append, List.set_cons_zero, List.set_cons_succ, List.length_cons, List.length_nil, Nat.reduceAdd, AV.sh, AV.sh1, AV.sh0, AO.sh, List.map_cons, List.map_nil, Nat.zero_add, Nat.add_zero, setAll]) | (apply w_assign; exact rfl; exact rfl) | ((apply w_extv); iterate 3 exact rfl) | ((apply w_bspl3); iterate 4 exact rfl) | (apply w_callm (p0); (focus ((repeat (first | exact im_nil | refine im_cons rfl (.val _) ?_ | refine im_cons rfl (im_agg1 (.intss _)) ?_)); done)); rintro r os0 ⟨rfl, rfl⟩; try simp only [List.nil_append, List.cons_append, List.set_cons_zero, List.set_cons_succ, List.length_cons, List.length_nil, Nat.reduceAdd, AV.sh, AV.sh1, AV.sh0, AO.sh, List.map_cons, List.map_nil, Nat.zero_add, Nat.add_zero, setAll]) | (apply w_callm (p1); (focus ((repeat (first | exact im_nil | refine im_cons rfl (.val _) ?_ | refine im_cons rfl (im_agg1 (.intss _)) ?_)); done)); rintro r os0 ⟨rfl, rfl⟩; try simp only [List.nil_append, List.cons_append, List.set_cons_zero, List.set_cons_succ, List.length_cons, List.length_nil, Nat.reduceAdd, AV.sh, AV.sh1, AV.sh0, AO.sh, List.map_cons, List.map_nil, Nat.zero_add, Nat.add_zero, setAll]) | (apply w_call (hl); exact rfl; exact rfl; focus ((repeat (first | exact im_nil | refine im_cons rfl (.sem _ (reads_pll rfl (pll_cons (.intss _) (pll_cons (.sls rfl) (pll_cons (.sls rfl) pll_nil))))) ?_)); done)) | (apply w_ldst; iterate 5 exact rfl) | apply AllOf.nil | (apply AllOf.cons; exact rfl) | (apply AAny.take; exact rfl; exact rfl; kernel_rfl; kernel_rfl) | (apply AAny.all; exact rfl) | (apply AAny.done; exact rfl))
        all_goals (apply Or.inl; refine ⟨lee rfl ?_, ?_, rfl, rfl⟩; (focus ((repeat (first | exact le_nil | refine le_eq rfl rfl ?_)); done)); (focus ((repeat (exact lo_nil)); done)))
      repeat' (apply AWp.ret)
      all_goals exact .intint Try.results32 rfl rfl rfl rfl
theorem specTjurina_c (f : List (List Int)) : AFnV Try.prog 31 [.agg [.intss f]] (.tuple #[.int .i64 (crV f true), .int .i64 (crE f true)]) := by
  (refine AFnV.start Try.func31 Try.ntmps31 rfl (by kernel_rfl) fun hk => ?_; simp only [Env.start, enumF, List.length_cons, List.length_nil, Nat.reduceAdd, Nat.reduceSub, List.cons_append, List.nil_append])
  repeat' (first | (apply AOps.nil; try simp only [List.nil_append, List.cons_append, List.set_cons_zero, List.set_cons_succ, List.length_cons, List.length_nil, Nat.reduceAdd, AV.sh, AV.sh1, AV.sh0, AO.sh, List.map_cons, List.map_nil, Nat.zero_add, Nat.add_zero, setAll]) | (apply w_move; exact rfl; exact rfl) | (apply w_assign; exact rfl; exact rfl) | apply AWp.seq | apply AWp.region | apply AWp.ret | (apply w_call (l17Critical_c f true); exact rfl; exact rfl; focus ((repeat (first | exact im_nil | refine im_cons rfl (.val _) ?_ | refine im_cons rfl (im_agg1 (.intss _)) ?_)); done)) | ((apply w_extv); iterate 3 exact rfl) | ((apply w_boxa); iterate 2 exact rfl) | (apply w_ldst; iterate 5 exact rfl))
  all_goals exact .intint Try.results31 rfl rfl rfl rfl
theorem lawTjurina_c (f : List (List Int)) : AFnV Try.prog 7 [.agg [.intss f]] (.bool true) := by
  (refine AFnV.start Try.func7 Try.ntmps7 rfl (by kernel_rfl) fun hk => ?_; simp only [Env.start, enumF, List.length_cons, List.length_nil, Nat.reduceAdd, Nat.reduceSub, List.cons_append, List.nil_append])
  repeat' (first | (apply AOps.nil; try simp only [List.nil_append, List.cons_append, List.set_cons_zero, List.set_cons_succ, List.length_cons, List.length_nil, Nat.reduceAdd, AV.sh, AV.sh1, AV.sh0, AO.sh, List.map_cons, List.map_nil, Nat.zero_add, Nat.add_zero, setAll]) | (apply w_move; exact rfl; exact rfl) | (apply w_assign; exact rfl; exact rfl) | apply AWp.seq | apply AWp.region | ((apply AWp.condP; exact rfl) <;> intro h) | apply AWp.ret | apply AWp.skip | (apply w_call (szPoly_c _ 1048576 (by omega) (by omega)); exact rfl; exact rfl; focus ((repeat (first | exact im_nil | refine im_cons rfl (.val _) ?_ | refine im_cons rfl (im_agg1 (.intss _)) ?_)); done)) | ((apply w_lss); iterate 3 exact rfl) | ((apply w_boxa); iterate 2 exact rfl) | (apply w_ldst; iterate 5 exact rfl))
  · exact .bool Try.results7 rfl rfl
  have hs := szSS_ok (xss := f) (left := 1048576) (by omega) (by omega)
  have hb : f.length ≤ 1048576 := by omega
  have hr : ∀ xs ∈ f, xs.length ≤ 1048576 := fun xs hx => by have := hs.2 xs hx; omega
  repeat' (first | (apply AOps.nil; try simp only [List.nil_append, List.cons_append, List.set_cons_zero, List.set_cons_succ, List.length_cons, List.length_nil, Nat.reduceAdd, AV.sh, AV.sh1, AV.sh0, AO.sh, List.map_cons, List.map_nil, Nat.zero_add, Nat.add_zero, setAll]) | ((apply AOps.splitP; exact rfl; exact rfl) <;> intro h) | (apply w_move; exact rfl; exact rfl) | (apply w_assign; exact rfl; exact rfl) | apply AWp.seq | apply AWp.region | ((apply AWp.condP; exact rfl) <;> intro h) | (apply AWp.condT; exact rfl) | apply AWp.ret | apply AWp.skip | (apply w_skip; exact rfl) | (apply w_pickT; exact rfl; exact rfl; exact rfl) | (apply w_pickF; exact rfl; exact rfl; exact rfl) | (apply w_call (specTjurina_c _); exact rfl; exact rfl; focus ((repeat (first | exact im_nil | refine im_cons rfl (im_agg1 (.sls rfl)) ?_)); done)) | (apply w_call (implTjurina_c _); exact rfl; exact rfl; focus ((repeat (first | exact im_nil | refine im_cons rfl (im_agg1 (.sls rfl)) ?_)); done)) | (apply w_callm (toPoly_c _ hb hr); (focus ((repeat (first | exact im_nil | refine im_cons rfl (im_agg1 (.intss _)) ?_)); done)); rintro r os0 ⟨rfl, rfl⟩; try simp only [List.nil_append, List.cons_append, List.set_cons_zero, List.set_cons_succ, List.length_cons, List.length_nil, Nat.reduceAdd, AV.sh, AV.sh1, AV.sh0, AO.sh, List.map_cons, List.map_nil, Nat.zero_add, Nat.add_zero, setAll]) | omega | ((first | apply w_neq | apply w_extv); iterate 3 exact rfl) | (apply w_ldst; iterate 5 exact rfl) | (apply w_alst; iterate 2 exact rfl) | (apply w_stst; iterate 5 exact rfl))
  refine AWp.regionA (by kernel_rfl) (envC := ⟨40, [(39, .b false)]⟩) (osC := []) rfl rfl ?_ ?_
  · repeat' (first | (apply AOps.nil; try simp only [List.nil_append, List.cons_append, List.set_cons_zero, List.set_cons_succ, List.length_cons, List.length_nil, Nat.reduceAdd, AV.sh, AV.sh1, AV.sh0, AO.sh, List.map_cons, List.map_nil, Nat.zero_add, Nat.add_zero, setAll]) | (apply w_call (eqPoly_t _); exact rfl; exact rfl; focus ((repeat (first | exact im_nil | refine im_cons rfl (im_agg1 (.sls rfl)) ?_)); done)) | (apply w_callm (toPoly_c _ hb hr); (focus ((repeat (first | exact im_nil | refine im_cons rfl (im_agg1 (.intss _)) ?_)); done)); rintro r os0 ⟨rfl, rfl⟩; try simp only [List.nil_append, List.cons_append, List.set_cons_zero, List.set_cons_succ, List.length_cons, List.length_nil, Nat.reduceAdd, AV.sh, AV.sh1, AV.sh0, AO.sh, List.map_cons, List.map_nil, Nat.zero_add, Nat.add_zero, setAll]) | ((apply w_not); iterate 2 exact rfl) | (apply w_ldst; iterate 5 exact rfl) | apply AllOf.nil | (apply AllOf.cons; exact rfl) | (apply AAny.take; exact rfl; exact rfl; kernel_rfl; kernel_rfl) | (apply AAny.all; exact rfl) | (apply AAny.done; exact rfl))
    all_goals (apply Or.inl; refine ⟨lee rfl ?_, ?_, rfl, rfl⟩; (focus ((repeat (first | exact le_nil | refine le_eq rfl rfl ?_)); done)); (focus ((repeat (exact lo_nil)); done)))
  repeat' (first | (apply AOps.nil; try simp only [List.nil_append, List.cons_append, List.set_cons_zero, List.set_cons_succ, List.length_cons, List.length_nil, Nat.reduceAdd, AV.sh, AV.sh1, AV.sh0, AO.sh, List.map_cons, List.map_nil, Nat.zero_add, Nat.add_zero, setAll]) | (apply w_assign; exact rfl; exact rfl) | apply AWp.seq | apply AWp.region | (apply AWp.condF; exact rfl) | apply AWp.ret | apply AWp.skip)
  all_goals exact .bool Try.results7 rfl rfl
end Go.Proofs.Ytifkgmbghcmdeaa
