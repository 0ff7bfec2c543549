/-
  The reference's reading of a polynomial: walk. Condition: a bound on the text's length.
-/
import Derived.Test.YtfgnccoaebkckaaDoorDw4
import Derived.Test.YtfgnccoaebkckaaDoorDw9
import Derived.Test.YtfgnccoaebkckaaDoorDw11
namespace Go.Proofs.YtfgnccoaebkckaaDoor
open Go Go.RowKit
attribute [local irreducible] AWp AOps ResIs Ret1 QOp LOp COp AFnV AFn Imms LeE LeO
set_option maxHeartbeats 1000000
set_option linter.unusedSimpArgs false
set_option linter.unusedVariables false

def tmsS (ws : List (List UInt8)) (n : Nat) : List (List Int) := (ws.take n).map fun w => (tmS w).getD []
theorem tmsS_succ {ws : List (List UInt8)} {n : Nat} (hn : n < ws.length) {t : List Int} (ht : tmS (ws.getD n []) = some t) : tmsS ws n ++ [t] = tmsS ws (n + 1) := by
  have e : ws.getD n [] = ws[n] := by simp [List.getD_eq_getElem?_getD, hn]
  rw [e] at ht
  unfold tmsS
  rw [List.take_succ_eq_append_getElem hn, List.map_append]
  simp [ht]
theorem tmsS_len (ws : List (List UInt8)) (n : Nat) (h : n ≤ ws.length) : (tmsS ws n).length = n := by unfold tmsS; rw [List.length_map, List.length_take]; omega
theorem dgV_b (w : List UInt8) : -1 ≤ (if dgOk w = true then vl (w.take (ndg w)) else -1) ∧ (if dgOk w = true then vl (w.take (ndg w)) else -1) < 1000000000 := by
  by_cases h : dgOk w = true
  · rw [if_pos h]
    have hV : exV w = some (vl (w.take (ndg w)), w.drop (ndg w)) := by rw [exV, if_pos h]
    have := (exV_b hV).1
    omega
  · rw [if_neg h]; omega

set_option maxHeartbeats 4000000 in
theorem specParsePoly_c (text : List UInt8) (hl : text.length ≤ 1048576) :
    AFn Tryd.prog 10 [.s text] (IsPolC 47 2 (outL (pO tmS 2000000 text) text) (outE (pO tmS 2000000 text) text)) := by
  have hwl := spl_len 43 text
  have cw := l01Split_c text 43 43 rfl hl
  (refine AFn.start Tryd.func10 Tryd.ntmps10 rfl (by kernel_rfl) fun hk => ?_; simp only [Env.start, enumF, List.length_cons, List.length_nil, Nat.reduceAdd, Nat.reduceSub, List.cons_append, List.nil_append])
  repeat' (first | (apply AOps.nil; try simp only [List.nil_append, List.cons_append, List.set_cons_zero, List.set_cons_succ, List.length_cons, List.length_nil, Nat.reduceAdd, sL_sh, AV.sh, AV.sh1, AV.sh0, AO.sh, List.map_cons, List.map_nil, Nat.zero_add, Nat.add_zero, setAll]) | (apply w_move; exact rfl; exact rfl) | (apply w_assign; exact rfl; exact rfl) | apply AWp.seq | apply AWp.region | apply AWp.block | (apply w_callm (cw); (focus ((repeat (first | exact im_nil | refine im_cons rfl (.val _) ?_)); done)); rintro r os0 ⟨rfl, rfl⟩; try simp only [List.nil_append, List.cons_append, List.set_cons_zero, List.set_cons_succ, List.length_cons, List.length_nil, Nat.reduceAdd, sL_sh, AV.sh, AV.sh1, AV.sh0, AO.sh, List.map_cons, List.map_nil, Nat.zero_add, Nat.add_zero, setAll]) | ((apply w_build0); iterate 2 exact rfl) | (apply w_alst; iterate 2 exact rfl) | (apply w_stst; iterate 5 exact rfl))
  refine AWp.turnsT (Turns.nilF (k := 2) (i := 0) 47 2 rfl rfl) ?_
  try simp only [List.nil_append, List.cons_append, List.set_cons_zero, List.set_cons_succ, List.length_cons, List.length_nil, Nat.reduceAdd, AV.sh, AV.sh1, AV.sh0, AO.sh, List.map_cons, List.map_nil, Nat.zero_add, Nat.add_zero, setAll]
  refine AWp.loop (ι := Nat) (fun n => ⟨86, [(0, .s text), (2, .optr 0 0), (4, .own 1), (5, .optr 2 0), (6, .i n)]⟩)
    (fun n => [.bx 28 [.val (.slice none 0 0)], .slr 9 (sL (spl 43 text)), .bx 28 [.own 3], .sls 47 2 (tmsS (spl 43 text) n)])
    (fun n => n ≤ (spl 43 text).length ∧ (text = [48] → n = 0) ∧ ∀ j, j < n → (tmS ((spl 43 text).getD j [])).isSome = true) (fun n => (spl 43 text).length - n) 0 ⟨by omega, fun _ => rfl, fun j h => by omega⟩ ⟨lee rfl (by (repeat (first | exact le_nil | refine le_eq rfl rfl ?_))), by (repeat (first | exact lo_nil | refine lo_eq rfl ?_)), rfl, (by first | exact rfl | (simp [AO.lim, AV.lim, sL_lim]; done))⟩ ?_
  rintro n ⟨h0, h1, h2⟩
  have hlen := tmsS_len (spl 43 text) n h0
  by_cases hn : n < (spl 43 text).length ∧ text ≠ [48]
  · obtain ⟨hn, h48⟩ := hn
    have hw := word_len hn
    have hml := word_mem hn
    have es := fun t (ht : tmS ((spl 43 text).getD n []) = some t) => tmsS_succ hn ht
    have hng := pl_le isDg ((spl 43 text).getD n [])
    have c1 := l17Digits_c ((spl 43 text).getD n []) (by omega)
    have c2 := l01ValueT_c ((spl 43 text).getD n []) (by omega)
    have c3 := l17Exponent_c (((spl 43 text).getD n []).drop (ndg ((spl 43 text).getD n []))) 120 120 rfl (by rw [List.length_drop]; omega)
    have b3 := exJ_b 120 (((spl 43 text).getD n []).drop (ndg ((spl 43 text).getD n [])))
    rw [List.length_drop] at b3
    have c4 := l17Exponent_c ((exJ 120 (((spl 43 text).getD n []).drop (ndg ((spl 43 text).getD n [])))).2) 121 121 rfl (by omega)
    have b4 := exJ_b 121 ((exJ 120 (((spl 43 text).getD n []).drop (ndg ((spl 43 text).getD n [])))).2)
    have bv := dgV_b ((spl 43 text).getD n [])
    have et : tmS ((spl 43 text).getD n []) = if (exJ 121 (exJ 120 (((spl 43 text).getD n []).drop (ndg ((spl 43 text).getD n [])))).2).2 ≠ [] ∨ (exJ 120 (((spl 43 text).getD n []).drop (ndg ((spl 43 text).getD n [])))).1 < 0 ∨ (exJ 121 (exJ 120 (((spl 43 text).getD n []).drop (ndg ((spl 43 text).getD n [])))).2).1 < 0 then none
      else some [(exJ 120 (((spl 43 text).getD n []).drop (ndg ((spl 43 text).getD n [])))).1, (exJ 121 (exJ 120 (((spl 43 text).getD n []).drop (ndg ((spl 43 text).getD n [])))).2).1, cfS ((spl 43 text).getD n [])] := rfl
    have hcf1 : 0 < ndg ((spl 43 text).getD n []) → cfS ((spl 43 text).getD n []) = if dgOk ((spl 43 text).getD n []) = true then vl (((spl 43 text).getD n []).take (ndg ((spl 43 text).getD n []))) else -1 := fun h => by rw [cfS, if_pos h]
    have hcf0 : ¬ 0 < ndg ((spl 43 text).getD n []) → cfS ((spl 43 text).getD n []) = 1 := fun h => by rw [cfS, if_neg h]
    generalize (if dgOk ((spl 43 text).getD n []) = true then vl (((spl 43 text).getD n []).take (ndg ((spl 43 text).getD n []))) else -1) = cv at c2 bv hcf1
    generalize exJ 121 (exJ 120 (((spl 43 text).getD n []).drop (ndg ((spl 43 text).getD n [])))).2 = B at c4 b4 et
    generalize exJ 120 (((spl 43 text).getD n []).drop (ndg ((spl 43 text).getD n []))) = A at c3 c4 b3 b4 et
    obtain ⟨a, r1⟩ := A
    obtain ⟨b, r2⟩ := B
    dsimp only at c3 c4 b3 b4 et
    have hng' : ndg ((spl 43 text).getD n []) ≤ ((spl 43 text).getD n []).length := hng
    have hng2 : ((ndg ((spl 43 text).getD n []) : Nat) : Int) ≤ ((((spl 43 text).getD ((n : Int)).toNat []).length : Nat) : Int) := Int.ofNat_le.2 hng'
    by_cases hc : r2 ≠ [] ∨ a < 0 ∨ b < 0
    · rw [if_pos hc] at et
      obtain ⟨e1, e2⟩ := pO_none (tm := tmS) (mx := 2000000) h48 (.inl ⟨_, hml, et⟩)
      rw [e1, e2]
      rcases hc with hc | hc | hc
      all_goals repeat' (first | (apply AOps.nil; try simp only [List.nil_append, List.cons_append, List.set_cons_zero, List.set_cons_succ, List.length_cons, List.length_nil, Nat.reduceAdd, sL_sh, AV.sh, AV.sh1, AV.sh0, AO.sh, List.map_cons, List.map_nil, Nat.zero_add, Nat.add_zero, setAll]) | ((apply AOps.splitP; exact rfl; exact rfl) <;> intro h) | (apply w_move; exact rfl; exact rfl) | (apply w_assign; exact rfl; exact rfl) | apply AWp.seq | apply AWp.region | ((apply AWp.condP; exact rfl) <;> intro h) | (apply AWp.condT; exact rfl) | (apply AWp.condF; exact rfl) | apply AWp.block | apply AWp.ret | apply AWp.exit | apply AWp.skip | (apply w_skip; exact rfl) | (apply w_pickT; exact rfl; exact rfl; exact rfl) | (apply w_pickF; exact rfl; exact rfl; exact rfl) | (apply w_lenS; (exact rfl); exact rfl; exact rfl) | (apply w_shi; (exact rfl); exact rfl; exact rfl) | (apply w_slo; (exact rfl); exact rfl; exact rfl) | (apply w_sneq; (exact rfl); exact rfl; exact rfl) | (apply w_idxS; (exact rfl); exact rfl; exact rfl; exact rfl) | (apply w_ldS; (exact rfl); exact rfl; exact rfl; exact rfl) | omega | contradiction | (apply w_call (c1); exact rfl; exact rfl; focus ((repeat (first | exact im_nil | refine im_cons rfl (.val _) ?_)); done)) | (apply w_call (c2); exact rfl; exact rfl; focus ((repeat (first | exact im_nil | refine im_cons rfl (.val _) ?_)); done)) | (apply w_call (c3); exact rfl; exact rfl; focus ((repeat (first | exact im_nil | refine im_cons rfl (.val _) ?_)); done)) | (apply w_call (c4); exact rfl; exact rfl; focus ((repeat (first | exact im_nil | refine im_cons rfl (.val _) ?_)); done)) | ((first | apply w_lss | apply w_gtr | apply w_extv); iterate 3 exact rfl) | ((apply w_build0); iterate 2 exact rfl) | (apply w_stst; iterate 5 exact rfl))
      all_goals exact ⟨_, _, _, .c1u Tryd.results10 rfl rfl rfl rfl, .tup2 (.agg1 (.nils 47 2)), rfl, rfl⟩
    · rw [if_neg hc] at et
      have es' := es _ et
      have hc1 : ¬ r2 ≠ [] := fun h => hc (.inl h)
      have hc2 : ¬ a < 0 := fun h => hc (.inr (.inl h))
      have hc3 : ¬ b < 0 := fun h => hc (.inr (.inr h))
      have hsm : ∀ j, j < n + 1 → (tmS ((spl 43 text).getD j [])).isSome = true := fun j hj => by
        rcases Nat.lt_or_ge j n with h | h
        · exact h2 j h
        · rw [show j = n by omega, et]; rfl
      by_cases hg : 0 < ndg ((spl 43 text).getD n [])
      · rw [hcf1 hg] at es'
        repeat' (first | (apply AOps.nil; try simp only [List.nil_append, List.cons_append, List.set_cons_zero, List.set_cons_succ, List.length_cons, List.length_nil, Nat.reduceAdd, sL_sh, AV.sh, AV.sh1, AV.sh0, AO.sh, List.map_cons, List.map_nil, Nat.zero_add, Nat.add_zero, setAll]) | ((apply AOps.splitP; exact rfl; exact rfl) <;> intro h) | (apply w_move; exact rfl; exact rfl) | (apply w_assign; exact rfl; exact rfl) | apply AWp.seq | apply AWp.region | ((apply AWp.condP; exact rfl) <;> intro h) | (apply AWp.condT; exact rfl) | (apply AWp.condF; exact rfl) | apply AWp.block | apply AWp.exit | apply AWp.skip | (apply w_skip; exact rfl) | (apply w_pickT; exact rfl; exact rfl; exact rfl) | (apply w_pickF; exact rfl; exact rfl; exact rfl) | (apply w_lenS; (exact rfl); exact rfl; exact rfl) | ((first | apply w_bsr1 | apply w_lss | apply w_gtr | apply w_neq | apply w_add | apply w_idx | apply w_ld | apply w_fa | apply w_extv); iterate 3 exact rfl) | (apply w_appr; exact rfl; exact rfl; exact rfl; exact rfl; exact rfl; exact rfl; exact rfl; rotate_left 1; simp only [sL_kill, sL_noRow, sL_rin, Env.mp, List.map_cons, List.map_nil, List.set_cons_zero, List.set_cons_succ, AV.kill, AV.kill1, AO.kill, AV.rin, AV.rin1, AV.noRow, AV.noRow1, AO.via, reduceIte, Nat.reduceEqDiff, Nat.reduceLT, Env.up, Nat.zero_ne_one, Nat.one_ne_zero, Nat.reduceAdd, List.cons_append, List.nil_append]; rotate_left 1) | (apply w_shi; (exact rfl); exact rfl; exact rfl) | (apply w_slo; (exact rfl); exact rfl; exact rfl) | (apply w_sneq; (exact rfl); exact rfl; exact rfl) | (apply w_idxS; (exact rfl); exact rfl; exact rfl; exact rfl) | (apply w_ldS; (exact rfl); exact rfl; exact rfl; exact rfl) | ((first | apply w_bs3 | apply w_stbi); iterate 4 exact rfl) | omega | contradiction | (apply w_call (c1); exact rfl; exact rfl; focus ((repeat (first | exact im_nil | refine im_cons rfl (.val _) ?_)); done)) | (apply w_call (c2); exact rfl; exact rfl; focus ((repeat (first | exact im_nil | refine im_cons rfl (.val _) ?_)); done)) | (apply w_call (c3); exact rfl; exact rfl; focus ((repeat (first | exact im_nil | refine im_cons rfl (.val _) ?_)); done)) | (apply w_call (c4); exact rfl; exact rfl; focus ((repeat (first | exact im_nil | refine im_cons rfl (.val _) ?_)); done)) | (apply w_ldb; iterate 5 exact rfl) | (apply w_stbo; exact rfl; exact rfl; exact rfl; exact rfl; exact rfl; exact True.intro) | (apply inI_of <;> omega))
        all_goals exact ⟨n + 1, ⟨hn, fun h => absurd h h48, hsm⟩, by omega, ⟨lee rfl (by (repeat (first | exact le_nil | refine le_eq rfl rfl ?_))), by (repeat (first | exact lo_nil | refine lo_eq rfl ?_ | refine lo_eq (congrArg (AO.sls _ _) (es')) ?_)), rfl, (by first | exact rfl | (simp [AO.lim, AV.lim, sL_lim]; done))⟩⟩
      · rw [hcf0 hg] at es'
        repeat' (first | (apply AOps.nil; try simp only [List.nil_append, List.cons_append, List.set_cons_zero, List.set_cons_succ, List.length_cons, List.length_nil, Nat.reduceAdd, sL_sh, AV.sh, AV.sh1, AV.sh0, AO.sh, List.map_cons, List.map_nil, Nat.zero_add, Nat.add_zero, setAll]) | ((apply AOps.splitP; exact rfl; exact rfl) <;> intro h) | (apply w_move; exact rfl; exact rfl) | (apply w_assign; exact rfl; exact rfl) | apply AWp.seq | apply AWp.region | ((apply AWp.condP; exact rfl) <;> intro h) | (apply AWp.condT; exact rfl) | (apply AWp.condF; exact rfl) | apply AWp.block | apply AWp.exit | apply AWp.skip | (apply w_skip; exact rfl) | (apply w_pickT; exact rfl; exact rfl; exact rfl) | (apply w_pickF; exact rfl; exact rfl; exact rfl) | (apply w_lenS; (exact rfl); exact rfl; exact rfl) | ((first | apply w_bsr1 | apply w_lss | apply w_gtr | apply w_neq | apply w_add | apply w_idx | apply w_ld | apply w_fa | apply w_extv); iterate 3 exact rfl) | (apply w_appr; exact rfl; exact rfl; exact rfl; exact rfl; exact rfl; exact rfl; exact rfl; rotate_left 1; simp only [sL_kill, sL_noRow, sL_rin, Env.mp, List.map_cons, List.map_nil, List.set_cons_zero, List.set_cons_succ, AV.kill, AV.kill1, AO.kill, AV.rin, AV.rin1, AV.noRow, AV.noRow1, AO.via, reduceIte, Nat.reduceEqDiff, Nat.reduceLT, Env.up, Nat.zero_ne_one, Nat.one_ne_zero, Nat.reduceAdd, List.cons_append, List.nil_append]; rotate_left 1) | (apply w_shi; (exact rfl); exact rfl; exact rfl) | (apply w_slo; (exact rfl); exact rfl; exact rfl) | (apply w_sneq; (exact rfl); exact rfl; exact rfl) | (apply w_idxS; (exact rfl); exact rfl; exact rfl; exact rfl) | (apply w_ldS; (exact rfl); exact rfl; exact rfl; exact rfl) | ((first | apply w_bs3 | apply w_stbi); iterate 4 exact rfl) | omega | contradiction | (apply w_call (c1); exact rfl; exact rfl; focus ((repeat (first | exact im_nil | refine im_cons rfl (.val _) ?_)); done)) | (apply w_call (c3); exact rfl; exact rfl; focus ((repeat (first | exact im_nil | refine im_cons rfl (.val _) ?_)); done)) | (apply w_call (c4); exact rfl; exact rfl; focus ((repeat (first | exact im_nil | refine im_cons rfl (.val _) ?_)); done)) | (apply w_ldb; iterate 5 exact rfl) | (apply w_stbo; exact rfl; exact rfl; exact rfl; exact rfl; exact rfl; exact True.intro) | (apply inI_of <;> omega))
        all_goals exact ⟨n + 1, ⟨hn, fun h => absurd h h48, hsm⟩, by omega, ⟨lee rfl (by (repeat (first | exact le_nil | refine le_eq rfl rfl ?_))), by (repeat (first | exact lo_nil | refine lo_eq rfl ?_ | refine lo_eq (congrArg (AO.sls _ _) (es')) ?_)), rfl, (by first | exact rfl | (simp [AO.lim, AV.lim, sL_lim]; done))⟩⟩
  · have hx : pO tmS 2000000 text = some (tmsS (spl 43 text) n) := by
      unfold pO tmsS
      by_cases h48 : text = [48]
      · rw [if_pos h48, h1 h48]; rfl
      · have en : n = (spl 43 text).length := by
          rcases Nat.lt_or_ge n (spl 43 text).length with h | h
          · exact absurd ⟨h, h48⟩ hn
          · omega
        rw [if_neg h48, if_pos ⟨all_some (fun j hj => h2 j (by omega)), by omega⟩, en, List.take_length]
    have hout : ¬ n < (spl 43 text).length ∨ ¬ text ≠ [48] := by
      rcases Nat.lt_or_ge n (spl 43 text).length with h | h
      · right; intro h'; exact hn ⟨h, h'⟩
      · left; omega
    have c1 := l17Is_c (tmsS (spl 43 text) n)
    generalize tmsS (spl 43 text) n = f at hx c1 hlen
    cases hp : isPo f with
    | false =>
      rw [hp] at c1
      obtain ⟨e1, e2⟩ := pO_bad (text := text) hx (fun h => by have := decide_eq_true (p := IsPo f) h.1; rw [show decide (IsPo f) = isPo f from rfl, hp] at this; cases this)
      rw [e1, e2]
      rcases hout with hout | hout
      all_goals repeat' (first | (apply AOps.nil; try simp only [List.nil_append, List.cons_append, List.set_cons_zero, List.set_cons_succ, List.length_cons, List.length_nil, Nat.reduceAdd, sL_sh, AV.sh, AV.sh1, AV.sh0, AO.sh, List.map_cons, List.map_nil, Nat.zero_add, Nat.add_zero, setAll]) | ((apply AOps.splitP; exact rfl; exact rfl) <;> intro h) | (apply w_move; exact rfl; exact rfl) | (apply w_assign; exact rfl; exact rfl) | apply AWp.seq | apply AWp.region | ((apply AWp.condP; exact rfl) <;> intro h) | (apply AWp.condT; exact rfl) | (apply AWp.condF; exact rfl) | apply AWp.block | apply AWp.ret | apply AWp.exit | apply AWp.skip | (apply w_skip; exact rfl) | (apply w_pickT; exact rfl; exact rfl; exact rfl) | (apply w_pickF; exact rfl; exact rfl; exact rfl) | (apply w_lenS; (exact rfl); exact rfl; exact rfl) | (apply w_sneq; (exact rfl); exact rfl; exact rfl) | (apply w_idxS; (exact rfl); exact rfl; exact rfl; exact rfl) | (apply w_ldS; (exact rfl); exact rfl; exact rfl; exact rfl) | omega | contradiction | (apply w_call (c1); exact rfl; exact rfl; focus ((repeat (first | exact im_nil | refine im_cons rfl (im_agg1 (.sls rfl)) ?_)); done)) | ((apply w_lss); iterate 3 exact rfl) | ((first | apply w_not | apply w_build0); iterate 2 exact rfl) | (apply w_ldst; iterate 5 exact rfl) | (apply w_stst; iterate 5 exact rfl))
      all_goals exact ⟨_, _, _, .c1u Tryd.results10 rfl rfl rfl rfl, .tup2 (.agg1 (.nils 47 2)), rfl, rfl⟩
    | true =>
      rw [hp] at c1
      have hP := isPo_Is' hp
      have c2 := l17Text_c f hP
      by_cases ht : txt f = text
      · obtain ⟨e1, e2⟩ := pO_good hx hP ht
        rw [e1, e2]
        rcases hout with hout | hout
        all_goals repeat' (first | (apply AOps.nil; try simp only [List.nil_append, List.cons_append, List.set_cons_zero, List.set_cons_succ, List.length_cons, List.length_nil, Nat.reduceAdd, sL_sh, AV.sh, AV.sh1, AV.sh0, AO.sh, List.map_cons, List.map_nil, Nat.zero_add, Nat.add_zero, setAll]) | ((apply AOps.splitP; exact rfl; exact rfl) <;> intro h) | (apply w_move; exact rfl; exact rfl) | (apply w_assign; exact rfl; exact rfl) | apply AWp.seq | apply AWp.region | ((apply AWp.condP; exact rfl) <;> intro h) | (apply AWp.condF; exact rfl) | apply AWp.block | apply AWp.ret | apply AWp.exit | apply AWp.skip | (apply w_skip; exact rfl) | (apply w_pickT; exact rfl; exact rfl; exact rfl) | (apply w_pickF; exact rfl; exact rfl; exact rfl) | (apply w_lenS; (exact rfl); exact rfl; exact rfl) | (apply w_sneq; (exact rfl); exact rfl; exact rfl) | (apply w_idxS; (exact rfl); exact rfl; exact rfl; exact rfl) | (apply w_ldS; (exact rfl); exact rfl; exact rfl; exact rfl) | omega | contradiction | (apply w_call (c1); exact rfl; exact rfl; focus ((repeat (first | exact im_nil | refine im_cons rfl (im_agg1 (.sls rfl)) ?_)); done)) | (apply w_call (c2); exact rfl; exact rfl; focus ((repeat (first | exact im_nil | refine im_cons rfl (im_agg1 (.sls rfl)) ?_)); done)) | ((apply w_lss); iterate 3 exact rfl) | ((apply w_not); iterate 2 exact rfl) | (apply w_ldst; iterate 5 exact rfl) | (apply w_stst; iterate 5 exact rfl))
        all_goals exact ⟨_, _, _, .c1u Tryd.results10 rfl rfl rfl rfl, .tup2 (.agg1 (.sls rfl)), rfl, rfl⟩
      · obtain ⟨e1, e2⟩ := pO_bad (text := text) hx (fun h => ht h.2)
        rw [e1, e2]
        rcases hout with hout | hout
        all_goals repeat' (first | (apply AOps.nil; try simp only [List.nil_append, List.cons_append, List.set_cons_zero, List.set_cons_succ, List.length_cons, List.length_nil, Nat.reduceAdd, sL_sh, AV.sh, AV.sh1, AV.sh0, AO.sh, List.map_cons, List.map_nil, Nat.zero_add, Nat.add_zero, setAll]) | ((apply AOps.splitP; exact rfl; exact rfl) <;> intro h) | (apply w_move; exact rfl; exact rfl) | (apply w_assign; exact rfl; exact rfl) | apply AWp.seq | apply AWp.region | ((apply AWp.condP; exact rfl) <;> intro h) | (apply AWp.condF; exact rfl) | apply AWp.block | apply AWp.ret | apply AWp.exit | apply AWp.skip | (apply w_skip; exact rfl) | (apply w_pickT; exact rfl; exact rfl; exact rfl) | (apply w_pickF; exact rfl; exact rfl; exact rfl) | (apply w_lenS; (exact rfl); exact rfl; exact rfl) | (apply w_sneq; (exact rfl); exact rfl; exact rfl) | (apply w_idxS; (exact rfl); exact rfl; exact rfl; exact rfl) | (apply w_ldS; (exact rfl); exact rfl; exact rfl; exact rfl) | omega | contradiction | (apply w_call (c1); exact rfl; exact rfl; focus ((repeat (first | exact im_nil | refine im_cons rfl (im_agg1 (.sls rfl)) ?_)); done)) | (apply w_call (c2); exact rfl; exact rfl; focus ((repeat (first | exact im_nil | refine im_cons rfl (im_agg1 (.sls rfl)) ?_)); done)) | ((apply w_lss); iterate 3 exact rfl) | ((first | apply w_not | apply w_build0); iterate 2 exact rfl) | (apply w_ldst; iterate 5 exact rfl) | (apply w_stst; iterate 5 exact rfl))
        all_goals exact ⟨_, _, _, .c1u Tryd.results10 rfl rfl rfl rfl, .tup2 (.agg1 (.nils 47 2)), rfl, rfl⟩
end Go.Proofs.YtfgnccoaebkckaaDoor
