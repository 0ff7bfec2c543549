/-
  The program's reading of a polynomial: walk. Conditions: a bound on the text's length; the library's table.
-/
import Derived.Test.YtfgnccoaebkckaaDoorDw3
import Derived.Test.YtfgnccoaebkckaaDoorDw6
import Derived.Test.YtfgnccoaebkckaaDoorDw10
import Derived.Test.YtfgnccoaebkckaaDoorMarkP
import Derived.Test.YtfgnccoaebkckaaDoorAmMore44
namespace Go.Proofs.YtfgnccoaebkckaaDoor
open Go Go.RowKit
attribute [local irreducible] AWp AOps ResIs Ret1 QOp LOp COp AFnV AFn Imms LeE LeO
set_option maxHeartbeats 1000000
set_option linter.unusedSimpArgs false
set_option linter.unusedVariables false

theorem AWp.turnsT {P : Program} {c : Code} {N : APost} {X : Nat → APost} {R : APost} {env env' : Env} {os os' : List AO} (ht : Turns env os env' os') (h : AWp P c N X R env' os') : AWp P c N X R env os := by
  unfold AWp at *
  intro base w0 w gs tm hr hb
  obtain ⟨gs', hr'⟩ := ht base w gs tm hr
  exact h base w0 w gs' tm hr' hb
/-- The terms of the first words. -/
def tmsI (ws : List (List UInt8)) (n : Nat) : List (List Int) := (ws.take n).map fun w => (tmI w).getD []
theorem tmsI_succ {ws : List (List UInt8)} {n : Nat} (hn : n < ws.length) {t : List Int} (ht : tmI (ws.getD n []) = some t) : tmsI ws n ++ [t] = tmsI ws (n + 1) := by
  have e : ws.getD n [] = ws[n] := by simp [List.getD_eq_getElem?_getD, hn]
  rw [e] at ht
  unfold tmsI
  rw [List.take_succ_eq_append_getElem hn, List.map_append]
  simp [ht]
theorem tmsI_len (ws : List (List UInt8)) (n : Nat) (h : n ≤ ws.length) : (tmsI ws n).length = n := by unfold tmsI; rw [List.length_map, List.length_take]; omega
theorem pO_none {tm : List UInt8 → Option (List Int)} {mx : Nat} {text : List UInt8} (h0 : text ≠ [48]) (h : (∃ w ∈ spl 43 text, tm w = none) ∨ mx < (spl 43 text).length) : outL (pO tm mx text) text = [] ∧ outE (pO tm mx text) text = 6 := by
  have e : pO tm mx text = none := by
    unfold pO
    rw [if_neg h0, if_neg]
    rintro ⟨h1, h2⟩
    rcases h with ⟨w, hw, hn⟩ | h
    · have := h1 w hw
      rw [hn] at this; cases this
    · omega
  have hg : ¬ Good (pO tm mx text) text := fun ⟨f, h1, _⟩ => by rw [e] at h1; cases h1
  unfold outL outE
  rw [if_neg hg, if_neg hg]
  exact ⟨rfl, rfl⟩
theorem pO_bad {p : Option (List (List Int))} {f : List (List Int)} {text : List UInt8} (e : p = some f) (h : ¬ (IsPo f ∧ txt f = text)) : outL p text = [] ∧ outE p text = 6 := by
  have hg : ¬ Good p text := fun ⟨f', h1, h2⟩ => by rw [e] at h1; cases h1; exact h h2
  unfold outL outE
  rw [if_neg hg, if_neg hg]
  exact ⟨rfl, rfl⟩
theorem pO_good {p : Option (List (List Int))} {f : List (List Int)} {text : List UInt8} (e : p = some f) (h1 : IsPo f) (h2 : txt f = text) : outL p text = f ∧ outE p text = 0 := by
  have hg : Good p text := ⟨f, e, h1, h2⟩
  unfold outL outE
  rw [if_pos hg, if_pos hg, e]
  exact ⟨rfl, rfl⟩
theorem isPo_Is' {f : List (List Int)} (h : isPo f = true) : IsPo f := of_decide_eq_true (p := IsPo f) h
theorem isPo_nil : IsPo [] := ⟨by simp, fun j h => by simp at h⟩
theorem word_len {c : UInt8} {text : List UInt8} {n : Nat} (hn : n < (spl c text).length) : ((spl c text).getD n []).length ≤ text.length := by
  have e : (spl c text).getD n [] = (spl c text)[n] := by simp [List.getD_eq_getElem?_getD, hn]
  rw [e]
  exact spl_mem c text _ (List.getElem_mem hn)
theorem word_mem {c : UInt8} {text : List UInt8} {n : Nat} (hn : n < (spl c text).length) : (spl c text).getD n [] ∈ spl c text := by
  have e : (spl c text).getD n [] = (spl c text)[n] := by simp [List.getD_eq_getElem?_getD, hn]
  rw [e]
  exact List.getElem_mem hn
theorem all_some {tm : List UInt8 → Option (List Int)} {ws : List (List UInt8)} (h : ∀ j, j < ws.length → (tm (ws.getD j [])).isSome = true) : ∀ w ∈ ws, (tm w).isSome = true := by
  intro w hw
  obtain ⟨i, hi, rfl⟩ := List.getElem_of_mem hw
  have := h i hi
  rwa [show ws.getD i [] = ws[i] by simp [List.getD_eq_getElem?_getD, hi]] at this

set_option maxHeartbeats 4000000 in
theorem implParsePoly_c (text : List UInt8) (hl : text.length ≤ 1048576) :
    AFnt Tryd.prog 11 [.s text] (IsPolC 47 2 (outL (pO tmI 200 text) text) (outE (pO tmI 200 text) text)) := by
  by_cases h48 : text = [48]
  · subst h48
    obtain ⟨e1, e2⟩ := pO_good (p := pO tmI 200 [48]) (f := []) (text := [48]) rfl isPo_nil rfl
    rw [e1, e2]
    (refine AFnt.start 46 Tryd.func11 Tryd.ntmps11 rfl (by kernel_rfl) fun hk => ?_; simp only [Env.start, enumF, List.length_cons, List.length_nil, Nat.reduceAdd, Nat.reduceSub, List.cons_append, List.nil_append])
    repeat' (first | (apply AOps.nil; try simp only [List.nil_append, List.cons_append, List.set_cons_zero, List.set_cons_succ, List.length_cons, List.length_nil, Nat.reduceAdd, sL_sh, AV.sh, AV.sh1, AV.sh0, AO.sh, List.map_cons, List.map_nil, Nat.zero_add, Nat.add_zero, setAll]) | (apply w_move; exact rfl; exact rfl) | (apply w_assign; exact rfl; exact rfl) | apply AWp.seq | apply AWp.region | ((apply AWp.condP; exact rfl) <;> intro h) | apply AWp.ret | apply AWp.skip | (apply w_seql; (exact rfl); exact rfl; exact rfl) | contradiction | ((apply w_build0); iterate 2 exact rfl) | (apply w_alst; iterate 2 exact rfl) | (apply w_stst; iterate 5 exact rfl))
    exact ⟨_, _, _, .c1u Tryd.results11 rfl rfl rfl rfl, .tup2 (.agg1 (.nils 47 2)), rfl, rfl⟩
  have hwl := spl_len 43 text
  have cw := wordsOf_c text 43 43 rfl hl
  (refine AFnt.start 46 Tryd.func11 Tryd.ntmps11 rfl (by kernel_rfl) fun hk => ?_; simp only [Env.start, enumF, List.length_cons, List.length_nil, Nat.reduceAdd, Nat.reduceSub, List.cons_append, List.nil_append])
  repeat' (first | (apply AOps.nil; try simp only [List.nil_append, List.cons_append, List.set_cons_zero, List.set_cons_succ, List.length_cons, List.length_nil, Nat.reduceAdd, sL_sh, AV.sh, AV.sh1, AV.sh0, AO.sh, List.map_cons, List.map_nil, Nat.zero_add, Nat.add_zero, setAll]) | (apply w_move; exact rfl; exact rfl) | (apply w_assign; exact rfl; exact rfl) | apply AWp.seq | apply AWp.region | ((apply AWp.condP; exact rfl) <;> intro h) | apply AWp.block | apply AWp.skip | (apply w_lenS; (exact rfl); exact rfl; exact rfl) | (apply w_seql; (exact rfl); exact rfl; exact rfl) | contradiction | (apply w_callm (cw); (focus ((repeat (first | exact im_nil | refine im_cons rfl (.val _) ?_)); done)); rintro r os0 ⟨rfl, rfl⟩; try simp only [List.nil_append, List.cons_append, List.set_cons_zero, List.set_cons_succ, List.length_cons, List.length_nil, Nat.reduceAdd, sL_sh, AV.sh, AV.sh1, AV.sh0, AO.sh, List.map_cons, List.map_nil, Nat.zero_add, Nat.add_zero, setAll]) | ((apply w_build0); iterate 2 exact rfl) | (apply w_alst; iterate 2 exact rfl) | (apply w_stst; iterate 5 exact rfl))
  refine AWp.turnsT (Turns.nilF (k := 1) (i := 0) 47 2 rfl rfl) ?_
  try simp only [List.nil_append, List.cons_append, List.set_cons_zero, List.set_cons_succ, List.length_cons, List.length_nil, Nat.reduceAdd, AV.sh, AV.sh1, AV.sh0, AO.sh, List.map_cons, List.map_nil, Nat.zero_add, Nat.add_zero, setAll]
  refine AWp.loop (ι := Nat) (fun n => ⟨52, [(0, .s text), (2, .optr 0 0), (4, .optr 1 0), (14, .own 2), (15, .i (spl 43 text).length), (16, .i n), (46, tabA)]⟩)
    (fun n => [.bx 28 [.val (.slice none 0 0)], .bx 28 [.own 3], .slr 9 (sL (spl 43 text)), .sls 47 2 (tmsI (spl 43 text) n)])
    (fun n => n ≤ (spl 43 text).length ∧ n ≤ 200 ∧ ∀ j, j < n → (tmI ((spl 43 text).getD j [])).isSome = true) (fun n => (spl 43 text).length - n) 0 ⟨by omega, by omega, fun j h => by omega⟩ ⟨lee rfl (by (repeat (first | exact le_nil | refine le_eq rfl rfl ?_))), by (repeat (first | exact lo_nil | refine lo_eq rfl ?_)), rfl, (by first | exact rfl | (simp [AO.lim, AV.lim, sL_lim]; done))⟩ ?_
  rintro n ⟨h0, h1, h2⟩
  have hlen := tmsI_len (spl 43 text) n h0
  by_cases hn : n < (spl 43 text).length
  · have ct := polyTerm_c ((spl 43 text).getD n []) (by have := word_len hn; omega)
    cases ht : tmI ((spl 43 text).getD n []) with
    | none =>
      obtain ⟨e1, e2⟩ := pO_none (tm := tmI) (mx := 200) h48 (.inl ⟨_, word_mem hn, ht⟩)
      rw [e1, e2]
      unfold IsTerm at ct
      rw [ht] at ct
      simp only [Option.isSome_none] at ct
      repeat' (first | (apply AOps.nil; try simp only [List.nil_append, List.cons_append, List.set_cons_zero, List.set_cons_succ, List.length_cons, List.length_nil, Nat.reduceAdd, sL_sh, AV.sh, AV.sh1, AV.sh0, AO.sh, List.map_cons, List.map_nil, Nat.zero_add, Nat.add_zero, setAll]) | (apply w_move; exact rfl; exact rfl) | (apply w_assign; exact rfl; exact rfl) | apply AWp.seq | apply AWp.region | ((apply AWp.condP; exact rfl) <;> intro h) | (apply AWp.condT; exact rfl) | apply AWp.block | apply AWp.ret | apply AWp.exit | apply AWp.skip | (apply w_skip; exact rfl) | (apply w_pickT; exact rfl; exact rfl; exact rfl) | (apply w_idxS; (exact rfl); exact rfl; exact rfl; exact rfl) | (apply w_ldS; (exact rfl); exact rfl; exact rfl; exact rfl) | omega | (apply w_callm (ct); (focus ((repeat (first | exact im_nil | refine im_cons rfl (.val _) ?_)); done)); rintro r os0 ⟨xs, rfl, rfl, hxs⟩; try simp only [List.nil_append, List.cons_append, List.set_cons_zero, List.set_cons_succ, List.length_cons, List.length_nil, Nat.reduceAdd, sL_sh, AV.sh, AV.sh1, AV.sh0, AO.sh, List.map_cons, List.map_nil, Nat.zero_add, Nat.add_zero, setAll]) | ((first | apply w_lss | apply w_extv); iterate 3 exact rfl) | ((apply w_ext); iterate 3 exact rfl) | ((first | apply w_not | apply w_build0); iterate 2 exact rfl) | (apply w_stst; iterate 5 exact rfl))
      all_goals exact ⟨_, _, _, .c1u Tryd.results11 rfl rfl rfl rfl, .tup2 (.agg1 (.nils 47 2)), rfl, rfl⟩
    | some t =>
      unfold IsTerm at ct
      rw [ht] at ct
      simp only [Option.isSome_some] at ct
      by_cases h200 : n = 200
      · obtain ⟨e1, e2⟩ := pO_none (tm := tmI) (mx := 200) h48 (.inr (by omega))
        rw [e1, e2]
        repeat' (first | (apply AOps.nil; try simp only [List.nil_append, List.cons_append, List.set_cons_zero, List.set_cons_succ, List.length_cons, List.length_nil, Nat.reduceAdd, sL_sh, AV.sh, AV.sh1, AV.sh0, AO.sh, List.map_cons, List.map_nil, Nat.zero_add, Nat.add_zero, setAll]) | (apply w_move; exact rfl; exact rfl) | (apply w_assign; exact rfl; exact rfl) | apply AWp.seq | apply AWp.region | ((apply AWp.condP; exact rfl) <;> intro h) | apply AWp.block | apply AWp.ret | apply AWp.exit | apply AWp.skip | (apply w_pickF; exact rfl; exact rfl; exact rfl) | (apply w_len; exact rfl; exact rfl; first | exact .ints _ | exact .intss _ | exact .sli rfl | exact .sls rfl | exact .slr rfl | exact .orow rfl | exact .nil) | (apply w_idxS; (exact rfl); exact rfl; exact rfl; exact rfl) | (apply w_ldS; (exact rfl); exact rfl; exact rfl; exact rfl) | omega | (apply w_callm (ct); (focus ((repeat (first | exact im_nil | refine im_cons rfl (.val _) ?_)); done)); rintro r os0 ⟨xs, rfl, rfl, hxs⟩; try simp only [List.nil_append, List.cons_append, List.set_cons_zero, List.set_cons_succ, List.length_cons, List.length_nil, Nat.reduceAdd, sL_sh, AV.sh, AV.sh1, AV.sh0, AO.sh, List.map_cons, List.map_nil, Nat.zero_add, Nat.add_zero, setAll]) | ((first | apply w_lss | apply w_eql | apply w_ld | apply w_fa | apply w_extv); iterate 3 exact rfl) | ((first | apply w_lds | apply w_ext); iterate 3 exact rfl) | ((first | apply w_not | apply w_build0); iterate 2 exact rfl) | (apply w_ldb; iterate 5 exact rfl) | (apply w_stst; iterate 5 exact rfl))
        all_goals exact ⟨_, _, _, .c1u Tryd.results11 rfl rfl rfl rfl, .tup2 (.agg1 (.nils 47 2)), rfl, rfl⟩
      · have es := tmsI_succ hn ht
        repeat' (first | (apply AOps.nil; try simp only [List.nil_append, List.cons_append, List.set_cons_zero, List.set_cons_succ, List.length_cons, List.length_nil, Nat.reduceAdd, sL_sh, AV.sh, AV.sh1, AV.sh0, AO.sh, List.map_cons, List.map_nil, Nat.zero_add, Nat.add_zero, setAll]) | (apply w_move; exact rfl; exact rfl) | (apply w_assign; exact rfl; exact rfl) | apply AWp.seq | apply AWp.region | ((apply AWp.condP; exact rfl) <;> intro h) | apply AWp.block | apply AWp.exit | apply AWp.skip | (apply w_pickF; exact rfl; exact rfl; exact rfl) | (apply w_len; exact rfl; exact rfl; first | exact .ints _ | exact .intss _ | exact .sli rfl | exact .sls rfl | exact .slr rfl | exact .orow rfl | exact .nil) | ((first | apply w_bsr1 | apply w_lss | apply w_eql | apply w_add | apply w_idx | apply w_ld | apply w_fa | apply w_extv); iterate 3 exact rfl) | (apply w_appr; exact rfl; exact rfl; exact rfl; exact rfl; exact rfl; exact rfl; exact rfl; rotate_left 1; simp only [sL_kill, sL_noRow, sL_rin, Env.mp, List.map_cons, List.map_nil, List.set_cons_zero, List.set_cons_succ, AV.kill, AV.kill1, AO.kill, AV.rin, AV.rin1, AV.noRow, AV.noRow1, AO.via, reduceIte, Nat.reduceEqDiff, Nat.reduceLT, Env.up, Nat.zero_ne_one, Nat.one_ne_zero, Nat.reduceAdd, List.cons_append, List.nil_append]; rotate_left 1) | (apply w_idxS; (exact rfl); exact rfl; exact rfl; exact rfl) | (apply w_ldS; (exact rfl); exact rfl; exact rfl; exact rfl) | omega | (apply w_callm (ct); (focus ((repeat (first | exact im_nil | refine im_cons rfl (.val _) ?_)); done)); rintro r os0 ⟨xs, rfl, rfl, hxs⟩; try simp only [List.nil_append, List.cons_append, List.set_cons_zero, List.set_cons_succ, List.length_cons, List.length_nil, Nat.reduceAdd, sL_sh, AV.sh, AV.sh1, AV.sh0, AO.sh, List.map_cons, List.map_nil, Nat.zero_add, Nat.add_zero, setAll]) | ((first | apply w_lds | apply w_ext); iterate 3 exact rfl) | ((apply w_not); iterate 2 exact rfl) | (apply w_ldb; iterate 5 exact rfl) | (apply w_stbo; exact rfl; exact rfl; exact rfl; exact rfl; exact rfl; exact True.intro) | (apply inI_of <;> omega))
        all_goals obtain rfl := hxs _ rfl
        all_goals exact ⟨n + 1, ⟨hn, by omega, fun j hj => by rcases Nat.lt_or_ge j n with h | h; exact h2 j h; rw [show j = n by omega, ht]; rfl⟩, by omega, ⟨lee rfl (by (repeat (first | exact le_nil | refine le_eq rfl rfl ?_))), by (repeat (first | exact lo_nil | refine lo_eq rfl ?_ | refine lo_eq (congrArg (AO.sls _ _) (es)) ?_)), rfl, (by first | exact rfl | (simp [AO.lim, AV.lim, sL_lim]; done))⟩⟩
  · have en : n = (spl 43 text).length := by omega
    have ep : pO tmI 200 text = some (tmsI (spl 43 text) n) := by
      unfold pO tmsI
      rw [if_neg h48, if_pos ⟨all_some (fun j hj => h2 j (by omega)), by omega⟩, en, List.take_length]
    have c1 := implIsPoly_c (tmsI (spl 43 text) n)
    generalize tmsI (spl 43 text) n = f at ep c1 hlen
    cases hp : isPo f with
    | false =>
      rw [hp] at c1
      obtain ⟨e1, e2⟩ := pO_bad (text := text) ep (fun h => by have := decide_eq_true (p := IsPo f) h.1; rw [show decide (IsPo f) = isPo f from rfl, hp] at this; cases this)
      rw [e1, e2]
      repeat' (first | (apply AOps.nil; try simp only [List.nil_append, List.cons_append, List.set_cons_zero, List.set_cons_succ, List.length_cons, List.length_nil, Nat.reduceAdd, sL_sh, AV.sh, AV.sh1, AV.sh0, AO.sh, List.map_cons, List.map_nil, Nat.zero_add, Nat.add_zero, setAll]) | (apply w_move; exact rfl; exact rfl) | (apply w_assign; exact rfl; exact rfl) | apply AWp.seq | apply AWp.region | ((apply AWp.condP; exact rfl) <;> intro h) | (apply AWp.condT; exact rfl) | apply AWp.block | apply AWp.ret | apply AWp.exit | apply AWp.skip | (apply w_skip; exact rfl) | (apply w_pickT; exact rfl; exact rfl; exact rfl) | (apply w_idxS; (exact rfl); exact rfl; exact rfl; exact rfl) | (apply w_ldS; (exact rfl); exact rfl; exact rfl; exact rfl) | omega | (apply w_call (c1); exact rfl; exact rfl; focus ((repeat (first | exact im_nil | refine im_cons rfl (im_agg1 (.sls rfl)) ?_)); done)) | ((apply w_lss); iterate 3 exact rfl) | ((first | apply w_not | apply w_build0); iterate 2 exact rfl) | (apply w_ldst; iterate 5 exact rfl) | (apply w_stst; iterate 5 exact rfl))
      all_goals exact ⟨_, _, _, .c1u Tryd.results11 rfl rfl rfl rfl, .tup2 (.agg1 (.nils 47 2)), rfl, rfl⟩
    | true =>
      rw [hp] at c1
      have hP := isPo_Is' hp
      have c2 := polyText_c f hP
      by_cases hx : txt f = text
      · obtain ⟨e1, e2⟩ := pO_good ep hP hx
        rw [e1, e2]
        repeat' (first | (apply AOps.nil; try simp only [List.nil_append, List.cons_append, List.set_cons_zero, List.set_cons_succ, List.length_cons, List.length_nil, Nat.reduceAdd, sL_sh, AV.sh, AV.sh1, AV.sh0, AO.sh, List.map_cons, List.map_nil, Nat.zero_add, Nat.add_zero, setAll]) | (apply w_move; exact rfl; exact rfl) | (apply w_assign; exact rfl; exact rfl) | apply AWp.seq | apply AWp.region | ((apply AWp.condP; exact rfl) <;> intro h) | apply AWp.block | apply AWp.ret | apply AWp.exit | apply AWp.skip | (apply w_pickF; exact rfl; exact rfl; exact rfl) | (apply w_sneq; (exact rfl); exact rfl; exact rfl) | (apply w_idxS; (exact rfl); exact rfl; exact rfl; exact rfl) | (apply w_ldS; (exact rfl); exact rfl; exact rfl; exact rfl) | omega | contradiction | (apply w_call (c1); exact rfl; exact rfl; focus ((repeat (first | exact im_nil | refine im_cons rfl (im_agg1 (.sls rfl)) ?_)); done)) | (apply w_callVt 46 (c2); exact rfl; exact rfl; exact rfl; focus ((repeat (first | exact im_nil | refine im_cons rfl (im_agg1 (.sls rfl)) ?_)); done)) | ((apply w_lss); iterate 3 exact rfl) | ((apply w_not); iterate 2 exact rfl) | (apply w_ldst; iterate 5 exact rfl) | (apply w_stst; iterate 5 exact rfl))
        all_goals exact ⟨_, _, _, .c1u Tryd.results11 rfl rfl rfl rfl, .tup2 (.agg1 (.sls rfl)), rfl, rfl⟩
      · obtain ⟨e1, e2⟩ := pO_bad (text := text) ep (fun h => hx h.2)
        rw [e1, e2]
        repeat' (first | (apply AOps.nil; try simp only [List.nil_append, List.cons_append, List.set_cons_zero, List.set_cons_succ, List.length_cons, List.length_nil, Nat.reduceAdd, sL_sh, AV.sh, AV.sh1, AV.sh0, AO.sh, List.map_cons, List.map_nil, Nat.zero_add, Nat.add_zero, setAll]) | (apply w_move; exact rfl; exact rfl) | (apply w_assign; exact rfl; exact rfl) | apply AWp.seq | apply AWp.region | ((apply AWp.condP; exact rfl) <;> intro h) | apply AWp.block | apply AWp.ret | apply AWp.exit | apply AWp.skip | (apply w_pickF; exact rfl; exact rfl; exact rfl) | (apply w_sneq; (exact rfl); exact rfl; exact rfl) | (apply w_idxS; (exact rfl); exact rfl; exact rfl; exact rfl) | (apply w_ldS; (exact rfl); exact rfl; exact rfl; exact rfl) | omega | contradiction | (apply w_call (c1); exact rfl; exact rfl; focus ((repeat (first | exact im_nil | refine im_cons rfl (im_agg1 (.sls rfl)) ?_)); done)) | (apply w_callVt 46 (c2); exact rfl; exact rfl; exact rfl; focus ((repeat (first | exact im_nil | refine im_cons rfl (im_agg1 (.sls rfl)) ?_)); done)) | ((apply w_lss); iterate 3 exact rfl) | ((first | apply w_not | apply w_build0); iterate 2 exact rfl) | (apply w_ldst; iterate 5 exact rfl) | (apply w_stst; iterate 5 exact rfl))
        all_goals exact ⟨_, _, _, .c1u Tryd.results11 rfl rfl rfl rfl, .tup2 (.agg1 (.nils 47 2)), rfl, rfl⟩
end Go.Proofs.YtfgnccoaebkckaaDoor
