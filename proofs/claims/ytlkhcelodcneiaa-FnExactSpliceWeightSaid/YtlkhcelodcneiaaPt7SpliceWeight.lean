/-
  Parts of the proof, one behind the other: contracts of functions and plain laws. No condition.
-/
import Derived.Test.YtlkhcelodcneiaaPt6SpliceWeight
/-
  The vertices behind a vertex, marked, walked: the program's closure. Condition: a tree.
-/
namespace Go.Proofs.Ytlkhcelodcneiaa
open Go Go.RowKit
attribute [local irreducible] AWp AOps ResIs Ret1 QOp LOp COp AFnV AFn Imms LeE LeO
set_option maxHeartbeats 1000000
set_option linter.unusedSimpArgs false
set_option linter.unusedVariables false
attribute [local irreducible] bxP mkR clR3 clP

abbrev mkF : FuncId := 52
set_option maxHeartbeats 8000000 in
theorem mark_c {n : Nat} {near : Int → List Int} {r : Int} {o p : List Int} (h : Tr n near r o p) (hn1 : n ≤ 1000) (W : List Int) (E N : List (List Int)) (hN : N.length = n) (hg : ∀ i : Int, 0 ≤ i → i < n → gets N i = near i) (hl : ∀ i : Int, (near i).length ≤ 100000) (Bk c : Nat)
    (q : Int → Nat) (q1 : ∀ x ∈ o, q x < n) (q2 : ∀ x ∈ o, x ≠ r → geti p x ∈ o ∧ q (geti p x) < q x ∧ x ∈ near (geti p x)) :
    ∀ (m : Nat) (i : Int) (bs : List Bool), i ∈ o → n - q i ≤ m → bs.length = n →
      AFnO Try.prog 52 ([.i i, .i (geti p i)] ++ [.ro (bxP [.val (.slice (some ⟨Bk, 0, none⟩) n c)] 0), .ro (bxP [.ints W, .intss E, .intss N] 0), .ro (mkR mkF (.slice (some ⟨Bk, 0, none⟩) n c) [.ints W, .intss E, .intss N])])
        (pinOb (blOb 4 bs) Bk (.slice (some ⟨Bk, 0, none⟩) n c)) (pinOb (blOb 4 (mk near m i (geti p i) bs)) Bk (.slice (some ⟨Bk, 0, none⟩) n c)) (.tuple #[]) := by
  intro m
  induction m with
  | zero => intro i bs hi hm; have := q1 i hi; omega
  | succ m ih =>
    intro i bs hi hm hb
    have hir := h.rng i hi
    have hgi := hg i hir.1 hir.2
    have hli := hl i
    rw [mk, ← hgi]
    rw [← hgi] at hli
    have hk : ∀ j : Nat, j < (gets N i).length → geti (gets N i) (j : Nat) ≠ geti p i → geti (gets N i) (j : Nat) ∈ o ∧ geti p (geti (gets N i) (j : Nat)) = i ∧ n - q (geti (gets N i) (j : Nat)) ≤ m := by
      intro j hj hne
      have hmem : geti (gets N i) (j : Nat) ∈ near i := by
        rw [← hgi]; simp only [geti, Int.toNat_natCast, List.getD_eq_getElem?_getD, List.getElem?_eq_getElem hj, Option.getD_some]
        exact List.getElem_mem hj
      obtain ⟨c1, c2, c3⟩ := h.ch hi hmem hne
      have hlt := (q2 _ c1 c2).2.1
      rw [c3] at hlt
      exact ⟨c1, c3, by have := q1 _ c1; omega⟩
    generalize geti p i = f at *
    (refine AFnO.start Try.func52 Try.ntmps52 rfl (by kernel_rfl) fun K B V => ?_; simp only [Env.start, enumF, List.map_cons, List.map_nil, AV.sh, AV.sh0, List.length_cons, List.length_nil, Nat.reduceAdd, Nat.zero_add, Nat.reduceSub, List.cons_append, List.nil_append])
    repeat' (first | (apply AOps.nil; try simp only [List.nil_append, List.cons_append, List.set_cons_zero, List.set_cons_succ, List.length_cons, List.length_nil, Nat.reduceAdd, AV.sh, AV.sh1, AV.sh0, AO.sh, List.map_cons, List.map_nil, Nat.zero_add, Nat.add_zero, setAll]) | (apply w_move; exact rfl; exact rfl) | apply AWp.seq | apply AWp.region | apply AWp.block | (apply w_len; exact rfl; exact rfl; first | exact .ints _ | exact .intss _ | exact .sli rfl | exact .sls rfl | exact .slr rfl | exact .orow rfl | exact .nil) | (apply w_ldfz; (exact rfl); exact rfl; exact rfl; exact rfl) | (apply w_fafz; (exact rfl); exact rfl) | (apply w_idxV; (exact rfl); exact rfl; exact rfl) | (apply w_stV 1; (exact rfl); exact rfl; exact rfl) | omega | ((first | apply w_idxs | apply w_lds); iterate 3 exact rfl))
    refine AWp.loop (ι := Nat) (fun j => ⟨30, [(0, .i i), (1, .i f), (2, .ro (bxP [.val (.slice (some ⟨Bk, 0, none⟩) n c)] 0)), (3, .ro (bxP [.ints W, .intss E, .intss N] 0)), (4, .ro (mkR mkF (.slice (some ⟨Bk, 0, none⟩) n c) [.ints W, .intss E, .intss N])), (16, .ints (gets N i)), (17, .i (gets N i).length), (18, .i j)]⟩) (fun j => [.keep 1 K, .ob (pinOb (pinOb (blOb 4 (mkL (fun k K => mk near m k i K) f ((gets N i).take j) (bs.set i.toNat true))) Bk (.slice (some ⟨Bk, 0, none⟩) n c)) B V)]) (fun j => j ≤ (gets N i).length) (fun j => (gets N i).length - j) 0 (Nat.zero_le _) ⟨lee rfl (by (repeat (first | exact le_nil | refine le_eq rfl rfl ?_))), by (repeat (first | exact lo_nil | refine lo_eq rfl ?_)), rfl, rfl⟩ ?_
    intro j hj
    by_cases hjl : j < (gets N i).length
    · have hstep : mkL (fun k K => mk near m k i K) f ((gets N i).take (j + 1)) (bs.set i.toNat true) = if geti (gets N i) (j : Nat) = f then mkL (fun k K => mk near m k i K) f ((gets N i).take j) (bs.set i.toNat true) else mk near m (geti (gets N i) (j : Nat)) i (mkL (fun k K => mk near m k i K) f ((gets N i).take j) (bs.set i.toNat true)) := by
        have e1 : (gets N i).take (j + 1) = (gets N i).take j ++ [geti (gets N i) (j : Nat)] := by
          rw [List.take_succ_eq_append_getElem hjl]
          simp [geti, hjl]
        rw [e1, mkL_app]
        rfl
      have hlen : (mkL (fun k K => mk near m k i K) f ((gets N i).take j) (bs.set i.toNat true)).length = n := by
        rw [mkL_len (fun k K => mk_len near m k i K), List.length_set]; exact hb
      by_cases hc : geti (gets N i) (j : Nat) = f
      · rw [if_pos hc] at hstep
        repeat' (first | (apply AOps.nil; try simp only [List.nil_append, List.cons_append, List.set_cons_zero, List.set_cons_succ, List.length_cons, List.length_nil, Nat.reduceAdd, AV.sh, AV.sh1, AV.sh0, AO.sh, List.map_cons, List.map_nil, Nat.zero_add, Nat.add_zero, setAll]) | (apply w_move; exact rfl; exact rfl) | (apply w_assign; exact rfl; exact rfl) | apply AWp.seq | apply AWp.region | ((apply AWp.condP; exact rfl) <;> intro h) | apply AWp.block | apply AWp.exit | apply AWp.skip | (apply if_pos'; exact rfl) | (apply w_ldmk; (exact rfl); exact rfl; exact rfl) | omega | ((first | apply w_lss | apply w_neq | apply w_add | apply w_idx | apply w_ld); iterate 3 exact rfl) | (apply inI_of <;> omega))
        refine ⟨j + 1, by omega, by omega, ?_⟩
        rw [hstep]
        exact ⟨lee rfl (by (repeat (first | exact le_nil | refine le_eq rfl rfl ?_))), by (repeat (first | exact lo_nil | refine lo_eq rfl ?_)), rfl, rfl⟩
      · rw [if_neg hc] at hstep
        obtain ⟨k1, k2, k3⟩ := hk j hjl hc
        have hcall := (ih _ (mkL (fun k K => mk near m k i K) f ((gets N i).take j) (bs.set i.toNat true)) k1 k3 hlen).pin B V
        rw [k2, ← hstep] at hcall
        repeat' (first | (apply AOps.nil; try simp only [List.nil_append, List.cons_append, List.set_cons_zero, List.set_cons_succ, List.length_cons, List.length_nil, Nat.reduceAdd, AV.sh, AV.sh1, AV.sh0, AO.sh, List.map_cons, List.map_nil, Nat.zero_add, Nat.add_zero, setAll]) | (apply w_move; exact rfl; exact rfl) | (apply w_assign; exact rfl; exact rfl) | apply AWp.seq | apply AWp.region | ((apply AWp.condP; exact rfl) <;> intro h) | apply AWp.block | apply AWp.exit | apply AWp.skip | (apply if_pos'; exact rfl) | (apply w_ldmk; (exact rfl); exact rfl; exact rfl) | (apply w_callk3 1 2 (hcall); (exact rfl); exact rfl; exact rfl; (focus ((repeat (first | exact imo_nil | refine imo_cons rfl (.val _) ?_)); done)); simp only [Env.mp, List.map_cons, List.map_nil, List.set_cons_zero, List.set_cons_succ, AV.kill, AV.kill1, AO.kill, AV.noRow, AV.noRow1, AO.via, reduceIte, Nat.reduceEqDiff, Nat.reduceLT, Env.up, Nat.zero_ne_one, Nat.one_ne_zero, Nat.reduceAdd, List.cons_append, List.nil_append]) | omega | ((first | apply w_lss | apply w_neq | apply w_add | apply w_idx | apply w_ld); iterate 3 exact rfl) | (apply inI_of <;> omega))
        exact ⟨j + 1, by omega, by omega, ⟨lee rfl (by (repeat (first | exact le_nil | refine le_eq rfl rfl ?_))), by (repeat (first | exact lo_nil | refine lo_eq rfl ?_)), rfl, rfl⟩⟩
    · obtain rfl : j = (gets N i).length := by omega
      rw [List.take_length]
      repeat' (first | (apply AOps.nil; try simp only [List.nil_append, List.cons_append, List.set_cons_zero, List.set_cons_succ, List.length_cons, List.length_nil, Nat.reduceAdd, AV.sh, AV.sh1, AV.sh0, AO.sh, List.map_cons, List.map_nil, Nat.zero_add, Nat.add_zero, setAll]) | apply AWp.seq | apply AWp.region | ((apply AWp.condP; exact rfl) <;> intro h) | apply AWp.block | apply AWp.exit | apply AWp.skip | (apply if_pos'; exact rfl) | omega | ((apply w_lss); iterate 3 exact rfl))
      exact ⟨1, .unit Try.results52, rfl, rfl⟩
set_option maxHeartbeats 8000000 in
theorem behind_c {n : Nat} {near : Int → List Int} {v : Int} {o p : List Int} (h : Tr n near v o p) (hn0 : 0 < n) (hn1 : n ≤ 1000) (W : List Int) (E N : List (List Int)) (hN : N.length = n) (hg : ∀ i : Int, 0 ≤ i → i < n → gets N i = near i) (hl : ∀ i : Int, (near i).length ≤ 100000) (w : Int) (hw : w ∈ o) (hwp : geti p w = v)
    (q : Int → Nat) (q1 : ∀ x ∈ o, q x < n) (q2 : ∀ x ∈ o, x ≠ v → geti p x ∈ o ∧ q (geti p x) < q x ∧ x ∈ near (geti p x)) :
    AFn Try.prog 38 [.agg [.ints W, .intss E, .intss N], .i v, .i w] (fun r os => r = .own 0 ∧ os = [.slr 4 (bL (mk near n w v (List.replicate n false)))]) := by
  have hNl : (N.length : Int).toNat = n := by omega
  (refine AFn.start Try.func38 Try.ntmps38 rfl (by kernel_rfl) fun hk => ?_; simp only [Env.start, enumF, List.length_cons, List.length_nil, Nat.reduceAdd, Nat.reduceSub, List.cons_append, List.nil_append])
  repeat' (first | (apply AOps.nil; try simp only [List.nil_append, List.cons_append, List.set_cons_zero, List.set_cons_succ, List.length_cons, List.length_nil, Nat.reduceAdd, AV.sh, AV.sh1, AV.sh0, AO.sh, List.map_cons, List.map_nil, Nat.zero_add, Nat.add_zero, setAll]) | (apply w_assign; exact rfl; exact rfl) | apply AWp.seq | apply AWp.region | (apply w_len; exact rfl; exact rfl; first | exact .ints _ | exact .intss _ | exact .sli rfl | exact .sls rfl | exact .slr rfl | exact .orow rfl | exact .nil) | (apply w_mkb; exact rfl; exact rfl; rotate_left 3; exact rfl; rotate_left 1) | omega | ((first | apply w_ld | apply w_fa); iterate 3 exact rfl) | ((apply w_boxa); iterate 2 exact rfl) | (apply w_ldb; iterate 5 exact rfl) | (apply w_alone; iterate 3 exact rfl) | (apply w_stbo; exact rfl; exact rfl; exact rfl; exact rfl; exact rfl; exact True.intro))
  rw [hNl]
  refine AOps.pinB 1 rfl (n := n) (by simp) hn0 fun Bk c => ?_
  refine AOps.nameC 2 1 rfl rfl pinned1 ?_
  refine AOps.freezeB 7 2 (avs := [.val (.slice (some ⟨Bk, 0, none⟩) n c)]) rfl rfl (fun a ha => by rw [List.mem_singleton.1 ha]; trivial) ?_
  refine AOps.freezeB 3 0 (avs := [.ints W, .intss E, .intss N]) rfl rfl (fun a ha => by simp at ha; rcases ha with rfl | rfl | rfl <;> trivial) ?_
  refine AOps.pinC 3 rfl fun B2 V2 => ?_
  refine w_makef3 pinned1 rfl rfl rfl rfl rfl ?_
  refine w_stmk rfl rfl rfl ?_
  have hc := mark_c h hn1 W E N hN hg hl Bk c q q1 q2 n w (List.replicate n false) hw (by omega) (by simp)
  rw [hwp] at hc
  repeat' (first | (apply AOps.nil; try simp only [List.nil_append, List.cons_append, List.set_cons_zero, List.set_cons_succ, List.length_cons, List.length_nil, Nat.reduceAdd, AV.sh, AV.sh1, AV.sh0, AO.sh, List.map_cons, List.map_nil, Nat.zero_add, Nat.add_zero, setAll]) | (apply w_move; exact rfl; exact rfl) | apply AWp.seq | apply AWp.region | (apply w_ldmk; (exact rfl); exact rfl; exact rfl) | (apply w_callk3 1 2 (hc); (exact rfl); exact rfl; exact rfl; (focus ((repeat (first | exact imo_nil | refine imo_cons rfl (.val _) ?_)); done)); simp only [Env.mp, List.map_cons, List.map_nil, List.set_cons_zero, List.set_cons_succ, AV.kill, AV.kill1, AO.kill, AV.noRow, AV.noRow1, AO.via, reduceIte, Nat.reduceEqDiff, Nat.reduceLT, Env.up, Nat.zero_ne_one, Nat.one_ne_zero, Nat.reduceAdd, List.cons_append, List.nil_append]))
  refine w_ldfz rfl rfl rfl rfl ?_
  refine AOps.unname 18 1 rfl rfl pinned1 ?_
  refine AOps.unpinB 1 rfl ?_
  repeat' (first | (apply AOps.nil; try simp only [List.nil_append, List.cons_append, List.set_cons_zero, List.set_cons_succ, List.length_cons, List.length_nil, Nat.reduceAdd, AV.sh, AV.sh1, AV.sh0, AO.sh, List.map_cons, List.map_nil, Nat.zero_add, Nat.add_zero, setAll]) | (apply w_assign; exact rfl; exact rfl) | apply AWp.ret)
  exact ⟨_, _, _, .v1 Try.results38 rfl, .slb rfl, rfl, rfl⟩
end Go.Proofs.Ytlkhcelodcneiaa
/-
  Two own objects behind a struct as a result. No condition.
-/
namespace Go.Proofs.Ytlkhcelodcneiaa
open Go Go.RowKit

theorem plain_ne {o : AO} (h : o.plain) : o ≠ .dead := by rintro rfl; exact h
theorem NewObjs.two {base : Nat} {w : World} {ok : Nat → Prop} {gs0 : List Gh} {g1 g2 : Gh} {o1 o2 : AO} (p1 : o1.plain) (p2 : o2.plain) (h1 : RO base w ok gs0 g1 o1) (h2 : RO base w ok gs0 g2 o2) (hd : ∀ b, b ∈ g1.bl → b ∉ g2.bl)
    (n1 : ∀ b, b ∈ g1.bl → base ≤ b ∧ b < w.heap.size) (n2 : ∀ b, b ∈ g2.bl → base ≤ b ∧ b < w.heap.size) : NewObjs base w [g1, g2] [o1, o2] where
  hl := rfl
  ho h g o hg ho := by
    match h with
    | 0 => simp at hg ho; subst hg; subst ho; exact p1.ro h1
    | 1 => simp at hg ho; subst hg; subst ho; exact p2.ro h2
    | h + 2 => simp at hg
  hd h k g g' o o' hne hg hg' ho ho' _ _ b hb := by
    match h, k with
    | 0, 0 => exact absurd rfl hne
    | 1, 1 => exact absurd rfl hne
    | 0, 1 => simp at hg hg'; subst hg; subst hg'; exact hd b hb
    | 1, 0 => simp at hg hg'; subst hg; subst hg'; exact fun h => hd b h hb
    | h + 2, _ => simp at hg
    | _, k + 2 => simp at hg'
  hn h g o hg ho _ b hb := by
    match h with
    | 0 => simp at hg; subst hg; exact n1 b hb
    | 1 => simp at hg; subst hg; exact n2 b hb
    | h + 2 => simp at hg
theorem Ret1.oo {os : List AO} {i j : Nat} {o1 o2 : AO} (h1 : os[i]? = some o1) (h2 : os[j]? = some o2) (p1 : o1.plain) (p2 : o2.plain) (hne : i ≠ j) : Ret1 os (.agg [.own i, .own j]) (.agg [.own 0, .own 1]) [o1, o2] := by
  unfold Ret1
  intro base w gs env tm hr u hu
  cases hu with
  | @agg vs _ k1 ko k2 =>
    match vs, k1, ko with
    | [x, y], _, ko =>
      have a1 := k2 0
      have a2 := k2 1
      simp at a1 a2
      cases a1 with
      | @own _ g hg =>
        cases a2 with
        | @own _ g' hg' =>
          refine ⟨[g, g'], .two p1 p2 (hr.ho _ _ _ hg h1) (hr.ho _ _ _ hg' h2) (hr.hd _ _ _ _ _ _ hne hg hg' h1 h2 (plain_ne p1) (plain_ne p2)) (hr.hn _ _ _ hg h1 (plain_ne p1)) (hr.hn _ _ _ hg' h2 (plain_ne p2)), ?_⟩
          refine .agg (vs := [g.v, g'.v]) rfl ko fun q => ?_
          match q with
          | 0 => exact .own rfl
          | 1 => exact .own rfl
          | q + 2 => exact .any _
theorem Ret1.so {os : List AO} {i j a n : Nat} {o1 o2 : AO} (h1 : os[i]? = some o1) (h2 : os[j]? = some o2) (p1 : o1.plain) (p2 : o2.plain) (hne : i ≠ j) : Ret1 os (.agg [.osub i a n, .own j]) (.agg [.osub 0 a n, .own 1]) [o1, o2] := by
  unfold Ret1
  intro base w gs env tm hr u hu
  cases hu with
  | @agg vs _ k1 ko k2 =>
    match vs, k1, ko with
    | [x, y], _, ko =>
      have a1 := k2 0
      have a2 := k2 1
      simp at a1 a2
      cases a1 with
      | @osub _ _ _ cap p g hg c1 c2 c3 =>
        cases a2 with
        | @own _ g' hg' =>
          refine ⟨[g, g'], .two p1 p2 (hr.ho _ _ _ hg h1) (hr.ho _ _ _ hg' h2) (hr.hd _ _ _ _ _ _ hne hg hg' h1 h2 (plain_ne p1) (plain_ne p2)) (hr.hn _ _ _ hg h1 (plain_ne p1)) (hr.hn _ _ _ hg' h2 (plain_ne p2)), ?_⟩
          refine .agg (vs := [.slice p n cap, g'.v]) rfl ko fun q => ?_
          match q with
          | 0 => exact .osub (g := g) rfl c1 c2 c3
          | 1 => exact .own rfl
          | q + 2 => exact .any _
end Go.Proofs.Ytlkhcelodcneiaa
/-
  The graph of some vertices and its determinant, walked: the program. Condition: a forest.
-/
namespace Go.Proofs.Ytlkhcelodcneiaa
open Go Go.RowKit
attribute [local irreducible] AWp AOps ResIs Ret1 QOp LOp COp AFnV AFn Imms LeE LeO
set_option maxHeartbeats 1000000
set_option linter.unusedSimpArgs false
set_option linter.unusedVariables false

set_option maxHeartbeats 16000000 in
theorem subgraph_c (W : List Int) (E : List (List Int)) (bs : List Bool) (hG : GrF W E) (hb : bs.length = W.length) :
    AFn Try.prog 50 [.agg [.ints W, .intss E], .ro (blR bs)] (fun r os => r = .agg [.own 0, .own 1] ∧ os = [.sli 2 (subW W (bF bs)), .sls 22 2 (subE E (bF bs))]) := by
  have hn := hG.n
  have hel := hG.e
  have ha0 := at_0 W.length (bF bs)
  (refine AFn.start Try.func50 Try.ntmps50 rfl (by kernel_rfl) fun hk => ?_; simp only [Env.start, enumF, List.length_cons, List.length_nil, Nat.reduceAdd, Nat.reduceSub, List.cons_append, List.nil_append])
  repeat' (first | (apply AOps.nil; try simp only [List.nil_append, List.cons_append, List.set_cons_zero, List.set_cons_succ, List.length_cons, List.length_nil, Nat.reduceAdd, AV.sh, AV.sh1, AV.sh0, AO.sh, List.map_cons, List.map_nil, Nat.zero_add, Nat.add_zero, setAll]) | (apply w_move; exact rfl; exact rfl) | (apply w_assign; exact rfl; exact rfl) | apply AWp.seq | apply AWp.region | apply AWp.block | ((first | apply w_bsr0 | apply w_bs0); iterate 1 exact rfl) | (apply w_lenbl; (exact rfl); exact rfl) | omega | ((apply w_boxa); iterate 2 exact rfl) | (apply w_build2; exact rfl; exact rfl; exact rfl; (exact one_own rfl True.intro); (exact one_own rfl True.intro)) | (apply w_alst; iterate 2 exact rfl) | (apply w_mki; exact rfl; exact rfl; rotate_left 3; exact rfl; rotate_left 1) | (apply w_stst; iterate 5 exact rfl))
  refine AWp.cut (env' := ⟨83, [(1, .ro (blR bs)), (2, .optr 0 0), (4, .optr 1 0), (5, .own 2), (6, .optr 5 0), (17, .ro (blR bs)), (18, .i bs.length), (19, .i 0)]⟩) (os' := [.bx 29 [.ints W, .intss E], .bx 29 [.val (.slice none 0 0), .val (.slice none 0 0)], .sli 2 (atL W.length (bF bs) 0), .sli 2 (swL W (bF bs) 0), .sls 22 2 [], .bx 29 [.own 3, .own 4]]) ?_ ?_
  · rw [at_0, ← hb]
    (apply Or.inl; refine ⟨lee rfl ?_, ?_, rfl, rfl⟩; (focus ((repeat (first | exact le_nil | refine le_eq rfl rfl ?_)); done)); (focus ((repeat (first | exact lo_nil | refine lo_eq rfl ?_)); done)))
  refine AWp.loop (ι := Nat) (fun i => ⟨83, [(1, .ro (blR bs)), (2, .optr 0 0), (4, .optr 1 0), (5, .own 2), (6, .optr 5 0), (17, .ro (blR bs)), (18, .i bs.length), (19, .i i)]⟩) (fun i => [.bx 29 [.ints W, .intss E], .bx 29 [.val (.slice none 0 0), .val (.slice none 0 0)], .sli 2 (atL W.length (bF bs) i), .sli 2 (swL W (bF bs) i), .sls 22 2 [], .bx 29 [.own 3, .own 4]]) (fun i => i ≤ bs.length) (fun i => bs.length - i) 0 (Nat.zero_le _) ⟨lee rfl (by (repeat (first | exact le_nil | refine le_eq rfl rfl ?_))), by (repeat (first | exact lo_nil | refine lo_eq rfl ?_)), rfl, rfl⟩ ?_
  · intro i i0
    by_cases hi : i < bs.length
    · have hwl := sw_len W (bF bs) i
      have hrk := rk_le (bF bs) i
      have hal := at_len W.length (bF bs) i
      have hw := hG.w (i : Nat)
      cases hB : bF bs i with
      | true =>
        have hB2 : bs.getD (i : Int).toNat false = true := hB
        have hB3 : ¬ bs.getD (i : Int).toNat false = false := by rw [hB2]; simp
        have s1 := at_t (n := W.length) hB
        have s2 := sw_t (W := W) hB
        rw [← hwl] at s1
        repeat' (first | (apply AOps.nil; try simp only [List.nil_append, List.cons_append, List.set_cons_zero, List.set_cons_succ, List.length_cons, List.length_nil, Nat.reduceAdd, AV.sh, AV.sh1, AV.sh0, AO.sh, List.map_cons, List.map_nil, Nat.zero_add, Nat.add_zero, setAll]) | (apply w_move; exact rfl; exact rfl) | (apply w_assign; exact rfl; exact rfl) | apply AWp.seq | apply AWp.region | ((apply AWp.condP; exact rfl) <;> intro h) | ((apply AWp.condB; exact rfl) <;> intro h) | apply AWp.block | apply AWp.exit | apply AWp.skip | (apply w_len; exact rfl; exact rfl; first | exact .ints _ | exact .intss _ | exact .sli rfl | exact .sls rfl | exact .slr rfl | exact .orow rfl | exact .nil) | (apply w_idxbl; (exact rfl); exact rfl; exact rfl) | (apply w_ldblr; (exact rfl); exact rfl; exact rfl) | omega | contradiction | ((first | apply w_lss | apply w_idx | apply w_ld | apply w_fa); iterate 3 exact rfl) | (apply w_idxo; exact rfl; exact rfl; (exact .sli rfl); exact rfl) | (apply w_ldb; iterate 5 exact rfl) | (apply w_sti; exact rfl; exact rfl; rotate_left 1; exact rfl; rotate_left 2) | (apply inI_of <;> omega))
        all_goals try (exfalso; exact absurd hB2 (by assumption))
        refine AWp.regionA (by kernel_rfl) (envC := ⟨83, [(1, .ro (blR bs)), (2, .optr 0 0), (4, .optr 1 0), (5, .own 2), (6, .optr 5 0), (17, .ro (blR bs)), (18, .i bs.length), (19, .i i)]⟩) (osC := [.bx 29 [.ints W, .intss E], .bx 29 [.val (.slice none 0 0), .val (.slice none 0 0)], .sli 2 (atL W.length (bF bs) (i + 1)), .sli 2 (swL W (bF bs) (i + 1)), .sls 22 2 [], .bx 29 [.own 3, .own 4]]) rfl rfl ?_ ?_
        · repeat' (first | (apply AOps.nil; try simp only [List.nil_append, List.cons_append, List.set_cons_zero, List.set_cons_succ, List.length_cons, List.length_nil, Nat.reduceAdd, AV.sh, AV.sh1, AV.sh0, AO.sh, List.map_cons, List.map_nil, Nat.zero_add, Nat.add_zero, setAll]) | (apply w_move; exact rfl; exact rfl) | omega | ((first | apply w_idx | apply w_ld | apply w_fa); iterate 3 exact rfl) | ((apply w_bs1); iterate 2 exact rfl) | (apply w_ldb; iterate 5 exact rfl) | (apply w_app; exact rfl; exact rfl; exact rfl; exact rfl; (exact .sli rfl); rotate_left 1; simp only [Env.mp, List.map_cons, List.map_nil, List.set_cons_zero, List.set_cons_succ, AV.kill, AV.kill1, AO.kill, AV.noRow, AV.noRow1, AO.via, reduceIte, Nat.reduceEqDiff, Nat.reduceLT, Env.up, Nat.zero_ne_one, Nat.one_ne_zero, Nat.reduceAdd, List.cons_append, List.nil_append]; rotate_left 1) | (apply w_stbo; exact rfl; exact rfl; exact rfl; exact rfl; exact rfl; exact True.intro) | apply AllOf.nil | (apply AllOf.cons; exact rfl) | (apply AAny.take; exact rfl; exact rfl; kernel_rfl; kernel_rfl) | (apply AAny.all; exact rfl) | (apply AAny.done; exact rfl) | (apply inI_of <;> omega) | (simp <;> omega))
          all_goals rw [show (i : Int).toNat = i from rfl, s1, s2]
          all_goals (apply Or.inl; refine ⟨lee rfl ?_, ?_, rfl, rfl⟩; (focus ((repeat (first | exact le_nil | refine le_eq rfl rfl ?_)); done)); (focus ((repeat (first | exact lo_nil | refine lo_eq rfl ?_)); done)))
        repeat' (first | (apply AOps.nil; try simp only [List.nil_append, List.cons_append, List.set_cons_zero, List.set_cons_succ, List.length_cons, List.length_nil, Nat.reduceAdd, AV.sh, AV.sh1, AV.sh0, AO.sh, List.map_cons, List.map_nil, Nat.zero_add, Nat.add_zero, setAll]) | (apply w_move; exact rfl; exact rfl) | apply AWp.region | ((apply w_add); iterate 3 exact rfl) | (apply inI_of <;> omega))
        exact ⟨i + 1, by omega, by omega, ⟨lee rfl (by (repeat (first | exact le_nil | refine le_eq rfl rfl ?_))), by (repeat (first | exact lo_nil | refine lo_eq rfl ?_)), rfl, rfl⟩⟩
      | false =>
        have hB2 : ¬ bs.getD (i : Int).toNat false = true := by rw [show bs.getD (i : Int).toNat false = bF bs i from rfl, hB]; simp
        have s1 := at_f (n := W.length) hB
        have s2 := sw_f (W := W) hB
        repeat' (first | (apply AOps.nil; try simp only [List.nil_append, List.cons_append, List.set_cons_zero, List.set_cons_succ, List.length_cons, List.length_nil, Nat.reduceAdd, AV.sh, AV.sh1, AV.sh0, AO.sh, List.map_cons, List.map_nil, Nat.zero_add, Nat.add_zero, setAll]) | (apply w_move; exact rfl; exact rfl) | (apply w_assign; exact rfl; exact rfl) | apply AWp.seq | apply AWp.region | ((apply AWp.condP; exact rfl) <;> intro h) | ((apply AWp.condB; exact rfl) <;> intro h) | apply AWp.block | apply AWp.exit | apply AWp.skip | (apply w_idxbl; (exact rfl); exact rfl; exact rfl) | (apply w_ldblr; (exact rfl); exact rfl; exact rfl) | omega | contradiction | ((first | apply w_lss | apply w_add); iterate 3 exact rfl) | (apply inI_of <;> omega))
        refine ⟨i + 1, by omega, by omega, ?_⟩
        rw [s1, s2]
        exact ⟨lee rfl (by (repeat (first | exact le_nil | refine le_eq rfl rfl ?_))), by (repeat (first | exact lo_nil | refine lo_eq rfl ?_)), rfl, rfl⟩
    · obtain rfl : i = bs.length := by omega
      rw [hb, subW_eq]
      repeat' (first | (apply AOps.nil; try simp only [List.nil_append, List.cons_append, List.set_cons_zero, List.set_cons_succ, List.length_cons, List.length_nil, Nat.reduceAdd, AV.sh, AV.sh1, AV.sh0, AO.sh, List.map_cons, List.map_nil, Nat.zero_add, Nat.add_zero, setAll]) | (apply w_move; exact rfl; exact rfl) | (apply w_assign; exact rfl; exact rfl) | apply AWp.seq | apply AWp.region | ((apply AWp.condP; exact rfl) <;> intro h) | ((apply AWp.condB; exact rfl) <;> intro h) | apply AWp.block | apply AWp.exit | apply AWp.skip | (apply w_len; exact rfl; exact rfl; first | exact .ints _ | exact .intss _ | exact .sli rfl | exact .sls rfl | exact .slr rfl | exact .orow rfl | exact .nil) | (apply w_idxbl; (exact rfl); exact rfl; exact rfl) | (apply w_ldblr; (exact rfl); exact rfl; exact rfl) | omega | ((first | apply w_lss | apply w_ld | apply w_fa); iterate 3 exact rfl) | (apply w_ldb; iterate 5 exact rfl))
      refine AWp.loop (ι := Nat) (fun k => ⟨83, [(1, .ro (blR bs)), (4, .optr 1 0), (5, .own 2), (6, .optr 5 0), (43, .intss E), (44, .i E.length), (45, .i k)]⟩) (fun k => [.bx 29 [.ints W, .intss E], .bx 29 [.val (.slice none 0 0), .val (.slice none 0 0)], .sli 2 (atL W.length (bF bs) W.length), .sli 2 (subW W (bF bs)), .sls 22 2 (seL E (bF bs) k), .bx 29 [.own 3, .own 4]]) (fun k => k ≤ E.length) (fun k => E.length - k) 0 (Nat.zero_le _) ⟨lee rfl (by (repeat (first | exact le_nil | refine le_eq rfl rfl ?_))), by (repeat (first | exact lo_nil | refine lo_eq rfl ?_)), rfl, rfl⟩ ?_
      intro k k0
      by_cases hk : k < E.length
      · have hm := gets_mem (xss := E) (i := (k : Nat)) (by omega) (by omega)
        obtain ⟨e0, e1, e2, e3⟩ := hG.fo.row _ hm
        have hal := at_len W.length (bF bs) W.length
        have hsl := se_len E (bF bs) k
        by_cases hB : eB (bF bs) (gets E (k : Nat)) = true
        · have s1 := se_t hk hB
          have hB' := hB
          unfold eB at hB'
          rw [Bool.and_eq_true] at hB'
          have b0 : bs.getD (geti (gets E (k : Nat)) 0).toNat false = true := hB'.1
          have b1 : bs.getD (geti (gets E (k : Nat)) 1).toNat false = true := hB'.2
          have nb0 : ¬ bs.getD (geti (gets E (k : Nat)) 0).toNat false = false := by rw [b0]; simp
          have nb1 : ¬ bs.getD (geti (gets E (k : Nat)) 1).toNat false = false := by rw [b1]; simp
          have n0 := at_get (n := W.length) e1 (by omega) hB'.1
          have n1 := at_get (n := W.length) (show 0 ≤ geti (gets E (k : Nat)) 1 by omega) e3 hB'.2
          have s2 : seL E (bF bs) k ++ [[(rkB (bF bs) (geti (gets E (k : Nat)) 0).toNat : Int), (rkB (bF bs) (geti (gets E (k : Nat)) 1).toNat : Int)]] = seL E (bF bs) (k + 1) := s1
          have m0 : geti (atL W.length (bF bs) W.length) ((geti (gets E (k : Nat)) 0).toNat : Nat) = (rkB (bF bs) (geti (gets E (k : Nat)) 0).toNat : Int) := n0
          have m1 : geti (atL W.length (bF bs) W.length) ((geti (gets E (k : Nat)) 1).toNat : Nat) = (rkB (bF bs) (geti (gets E (k : Nat)) 1).toNat : Int) := n1
          have q0 := rk_le (bF bs) (geti (gets E (k : Nat)) 0).toNat
          have q1 := rk_le (bF bs) (geti (gets E (k : Nat)) 1).toNat
          repeat' (first | (apply AOps.nil; try simp only [List.nil_append, List.cons_append, List.set_cons_zero, List.set_cons_succ, List.length_cons, List.length_nil, Nat.reduceAdd, AV.sh, AV.sh1, AV.sh0, AO.sh, List.map_cons, List.map_nil, Nat.zero_add, Nat.add_zero, setAll]) | (apply w_move; exact rfl; exact rfl) | (apply w_assign; exact rfl; exact rfl) | apply AWp.seq | apply AWp.region | ((apply AWp.condP; exact rfl) <;> intro h) | (apply AWp.condF; exact rfl) | ((apply AWp.condB; exact rfl) <;> intro h) | apply AWp.block | apply AWp.exit | apply AWp.skip | (apply w_skip; exact rfl) | (apply w_pickT; exact rfl; exact rfl; exact rfl) | (apply w_pickF; exact rfl; exact rfl; exact rfl) | (apply w_idxbl; (exact rfl); exact rfl; exact rfl) | (apply w_ldblr; (exact rfl); exact rfl; exact rfl) | omega | contradiction | ((first | apply w_lss | apply w_idx | apply w_ld); iterate 3 exact rfl) | ((first | apply w_idxs | apply w_lds); iterate 3 exact rfl) | ((apply AOps.splitB; exact rfl; exact rfl) <;> intro h))
          all_goals try (exfalso; first | exact absurd b0 (by assumption) | exact absurd b1 (by assumption) | exact nb0 (by assumption) | exact nb1 (by assumption))
          refine AWp.regionG [] (by kernel_rfl) (envC := ⟨83, [(1, .ro (blR bs)), (4, .optr 1 0), (5, .own 2), (6, .optr 5 0), (43, .intss E), (44, .i E.length), (45, .i k)]⟩) (osC := [.bx 29 [.ints W, .intss E], .bx 29 [.val (.slice none 0 0), .val (.slice none 0 0)], .sli 2 (atL W.length (bF bs) W.length), .sli 2 (subW W (bF bs)), .sls 22 2 (seL E (bF bs) (k + 1)), .bx 29 [.own 3, .own 4]]) rfl rfl ?_ ?_
          · repeat' (first | (apply AOps.nil; try simp only [List.nil_append, List.cons_append, List.set_cons_zero, List.set_cons_succ, List.length_cons, List.length_nil, Nat.reduceAdd, AV.sh, AV.sh1, AV.sh0, AO.sh, List.map_cons, List.map_nil, Nat.zero_add, Nat.add_zero, setAll]) | (apply w_move; exact rfl; exact rfl) | ((first | apply w_bsr1 | apply w_idx | apply w_ld | apply w_fa | apply w_bs2); iterate 3 exact rfl) | (apply w_appr; exact rfl; exact rfl; exact rfl; exact rfl; exact rfl; exact rfl; exact rfl; rotate_left 1; simp only [Env.mp, List.map_cons, List.map_nil, List.set_cons_zero, List.set_cons_succ, AV.kill, AV.kill1, AO.kill, AV.rin, AV.rin1, AV.noRow, AV.noRow1, AO.via, reduceIte, Nat.reduceEqDiff, Nat.reduceLT, Env.up, Nat.zero_ne_one, Nat.one_ne_zero, Nat.reduceAdd, List.cons_append, List.nil_append]; rotate_left 1) | apply AllOfG.nil | (apply AllOfG.consQ; exact rfl; exact rfl) | (apply AllOfG.consS; exact rfl; exact rfl) | (apply AAnyG.takeW; exact rfl; exact rfl; kernel_rfl; kernel_rfl) | (apply AAnyG.takeL; exact rfl; exact rfl; kernel_rfl) | (apply AAnyG.all; exact rfl) | (apply AAnyG.done; exact rfl) | omega | (apply w_idxo; exact rfl; exact rfl; (exact .sli rfl); exact rfl) | (apply w_ldo; iterate 4 exact rfl) | (apply w_ldb; iterate 5 exact rfl) | (apply w_stbo; exact rfl; exact rfl; exact rfl; exact rfl; exact rfl; exact True.intro) | (apply inI_of <;> omega))
            all_goals rw [m0, m1, s2]
            all_goals (apply Or.inl; refine ⟨lee rfl ?_, ?_, rfl, rfl⟩; (focus ((repeat (first | exact le_nil | refine le_eq rfl rfl ?_)); done)); (focus ((repeat (first | exact lo_nil | refine lo_eq rfl ?_)); done)))
          repeat' (first | (apply AOps.nil; try simp only [List.nil_append, List.cons_append, List.set_cons_zero, List.set_cons_succ, List.length_cons, List.length_nil, Nat.reduceAdd, AV.sh, AV.sh1, AV.sh0, AO.sh, List.map_cons, List.map_nil, Nat.zero_add, Nat.add_zero, setAll]) | (apply w_move; exact rfl; exact rfl) | apply AWp.region | ((apply w_add); iterate 3 exact rfl) | (apply inI_of <;> omega))
          exact ⟨k + 1, by omega, by omega, ⟨lee rfl (by (repeat (first | exact le_nil | refine le_eq rfl rfl ?_))), by (repeat (first | exact lo_nil | refine lo_eq rfl ?_)), rfl, rfl⟩⟩
        · have s1 := se_f hk hB
          repeat' (first | (apply AOps.nil; try simp only [List.nil_append, List.cons_append, List.set_cons_zero, List.set_cons_succ, List.length_cons, List.length_nil, Nat.reduceAdd, AV.sh, AV.sh1, AV.sh0, AO.sh, List.map_cons, List.map_nil, Nat.zero_add, Nat.add_zero, setAll]) | (apply w_move; exact rfl; exact rfl) | (apply w_assign; exact rfl; exact rfl) | apply AWp.seq | apply AWp.region | ((apply AWp.condP; exact rfl) <;> intro h) | (apply AWp.condF; exact rfl) | ((apply AWp.condB; exact rfl) <;> intro h) | apply AWp.block | apply AWp.exit | apply AWp.skip | (apply w_skip; exact rfl) | (apply w_pickT; exact rfl; exact rfl; exact rfl) | (apply w_pickF; exact rfl; exact rfl; exact rfl) | (apply w_idxbl; (exact rfl); exact rfl; exact rfl) | (apply w_ldblr; (exact rfl); exact rfl; exact rfl) | omega | ((first | apply w_lss | apply w_add | apply w_idx | apply w_ld); iterate 3 exact rfl) | ((first | apply w_idxs | apply w_lds); iterate 3 exact rfl) | ((apply AOps.splitB; exact rfl; exact rfl) <;> intro h) | (apply inI_of <;> omega))
          all_goals try (exfalso; exact hB (by unfold eB bF; rw [Bool.and_eq_true]; exact ⟨by assumption, by assumption⟩))
          all_goals
            refine ⟨k + 1, by omega, by omega, ?_⟩
            rw [s1]
            exact ⟨lee rfl (by (repeat (first | exact le_nil | refine le_eq rfl rfl ?_))), by (repeat (first | exact lo_nil | refine lo_eq rfl ?_)), rfl, rfl⟩
      · obtain rfl : k = E.length := by omega
        rw [se_all]
        repeat' (first | (apply AOps.nil; try simp only [List.nil_append, List.cons_append, List.set_cons_zero, List.set_cons_succ, List.length_cons, List.length_nil, Nat.reduceAdd, AV.sh, AV.sh1, AV.sh0, AO.sh, List.map_cons, List.map_nil, Nat.zero_add, Nat.add_zero, setAll]) | apply AWp.seq | apply AWp.region | ((apply AWp.condP; exact rfl) <;> intro h) | apply AWp.block | apply AWp.ret | apply AWp.exit | apply AWp.skip | omega | ((apply w_lss); iterate 3 exact rfl) | (apply w_ldst; iterate 5 exact rfl) | (apply w_stst; iterate 5 exact rfl))
        exact ⟨_, _, _, .c1 Try.results50 rfl rfl rfl, .oo (i := 3) (j := 4) rfl rfl trivial trivial (by decide), rfl, rfl⟩
end Go.Proofs.Ytlkhcelodcneiaa
/-
  The determinant of some vertices, walked: the program. Condition: a forest.
-/
namespace Go.Proofs.Ytlkhcelodcneiaa
open Go Go.RowKit
attribute [local irreducible] AWp AOps ResIs Ret1 QOp LOp COp AFnV AFn Imms LeE LeO
set_option maxHeartbeats 1000000
set_option linter.unusedSimpArgs false
set_option linter.unusedVariables false

set_option maxHeartbeats 4000000 in
theorem setDet_c (W : List Int) (E : List (List Int)) (bs : List Bool) (hG : GrF W E) (hb : bs.length = W.length) (h0 : 0 < (subW W (bF bs)).length) :
    AFnV Try.prog 37 [.agg [.ints W, .intss E], .ro (blR bs)] (.tuple #[.int .i64 (gdV (subW W (bF bs)) (subE E (bF bs))).1, .bool (gdV (subW W (bF bs)) (subE E (bF bs))).2]) := by
  have hs := subgraph_c W E bs hG hb
  have hd : AFnV Try.prog 51 [.agg [.ints (subW W (bF bs)), .intss (subE E (bF bs))]] (.tuple #[.int .i64 (gdV (subW W (bF bs)) (subE E (bF bs))).1, .bool (gdV (subW W (bF bs)) (subE E (bF bs))).2]) := determinant_c _ _ (sub_gr (bF bs) hG h0)
  generalize (gdV (subW W (bF bs)) (subE E (bF bs))).1 = d at *
  generalize (gdV (subW W (bF bs)) (subE E (bF bs))).2 = b at *
  generalize subW W (bF bs) = X at *
  generalize subE E (bF bs) = Y at *
  (refine AFnV.start Try.func37 Try.ntmps37 rfl (by kernel_rfl) fun hk => ?_; simp only [Env.start, enumF, List.length_cons, List.length_nil, Nat.reduceAdd, Nat.reduceSub, List.cons_append, List.nil_append])
  repeat' (first | (apply AOps.nil; try simp only [List.nil_append, List.cons_append, List.set_cons_zero, List.set_cons_succ, List.length_cons, List.length_nil, Nat.reduceAdd, AV.sh, AV.sh1, AV.sh0, AO.sh, List.map_cons, List.map_nil, Nat.zero_add, Nat.add_zero, setAll]) | (apply w_move; exact rfl; exact rfl) | (apply w_assign; exact rfl; exact rfl) | apply AWp.seq | apply AWp.region | ((apply AWp.condP; exact rfl) <;> intro h) | apply AWp.ret | apply AWp.skip | (apply w_len; exact rfl; exact rfl; first | exact .ints _ | exact .intss _ | exact .sli rfl | exact .sls rfl | exact .slr rfl | exact .orow rfl | exact .nil) | (apply w_callm (hs); (focus ((repeat (first | exact im_nil | refine im_cons rfl (im_agg2 (.ints _) (.intss _)) ?_ | refine im_cons rfl (.ro _) ?_)); done)); rintro r os0 ⟨rfl, rfl⟩; try simp only [List.nil_append, List.cons_append, List.set_cons_zero, List.set_cons_succ, List.length_cons, List.length_nil, Nat.reduceAdd, AV.sh, AV.sh1, AV.sh0, AO.sh, List.map_cons, List.map_nil, Nat.zero_add, Nat.add_zero, setAll]) | (apply w_call (hd); exact rfl; exact rfl; focus ((repeat (first | exact im_nil | refine im_cons rfl (im_agg2 (.sli rfl) (.sls rfl)) ?_)); done)) | omega | ((first | apply w_eql | apply w_ld | apply w_fa | apply w_extv); iterate 3 exact rfl) | ((apply w_boxa); iterate 2 exact rfl) | (apply w_ldb; iterate 5 exact rfl) | (apply w_ldst; iterate 5 exact rfl) | (apply w_alst; iterate 2 exact rfl) | (apply w_stst; iterate 5 exact rfl))
  all_goals exact .vv2 Try.results37 rfl rfl
theorem limited_c (n : Int) (b : Bool) : AFnV Try.prog 19 [.i n, .b b] (.tuple #[.int .i64 (if b = true then n else 0), .int .i64 (if b = true then 0 else 3)]) := by
  cases b with
  | true =>
    (refine AFnV.start Try.func19 Try.ntmps19 rfl (by kernel_rfl) fun hk => ?_; simp only [Env.start, enumF, List.length_cons, List.length_nil, Nat.reduceAdd, Nat.reduceSub, List.cons_append, List.nil_append])
    repeat' (first | (apply AOps.nil; try simp only [List.nil_append, List.cons_append, List.set_cons_zero, List.set_cons_succ, List.length_cons, List.length_nil, Nat.reduceAdd, AV.sh, AV.sh1, AV.sh0, AO.sh, List.map_cons, List.map_nil, Nat.zero_add, Nat.add_zero, setAll]) | (apply w_move; exact rfl; exact rfl) | (apply w_assign; exact rfl; exact rfl) | apply AWp.seq | apply AWp.region | (apply AWp.condF; exact rfl) | apply AWp.ret | apply AWp.skip | ((apply w_not); iterate 2 exact rfl))
    all_goals exact .vv2 Try.results19 rfl rfl
  | false =>
    (refine AFnV.start Try.func19 Try.ntmps19 rfl (by kernel_rfl) fun hk => ?_; simp only [Env.start, enumF, List.length_cons, List.length_nil, Nat.reduceAdd, Nat.reduceSub, List.cons_append, List.nil_append])
    repeat' (first | (apply AOps.nil; try simp only [List.nil_append, List.cons_append, List.set_cons_zero, List.set_cons_succ, List.length_cons, List.length_nil, Nat.reduceAdd, AV.sh, AV.sh1, AV.sh0, AO.sh, List.map_cons, List.map_nil, Nat.zero_add, Nat.add_zero, setAll]) | (apply w_move; exact rfl; exact rfl) | (apply w_assign; exact rfl; exact rfl) | apply AWp.seq | apply AWp.region | (apply AWp.condT; exact rfl) | apply AWp.ret | ((apply w_not); iterate 2 exact rfl))
    all_goals exact .vv2 Try.results19 rfl rfl
theorem isConn_c (W : List Int) (E : List (List Int)) (hW : W.length ≤ 1000) (hE : E.length ≤ 1000) : AFnV Try.prog 31 [.agg [.ints W, .intss E]] (.bool (decide ((E.length : Int) = (W.length : Int) - 1))) := by
  (refine AFnV.start Try.func31 Try.ntmps31 rfl (by kernel_rfl) fun hk => ?_; simp only [Env.start, enumF, List.length_cons, List.length_nil, Nat.reduceAdd, Nat.reduceSub, List.cons_append, List.nil_append])
  repeat' (first | (apply AOps.nil; try simp only [List.nil_append, List.cons_append, List.set_cons_zero, List.set_cons_succ, List.length_cons, List.length_nil, Nat.reduceAdd, AV.sh, AV.sh1, AV.sh0, AO.sh, List.map_cons, List.map_nil, Nat.zero_add, Nat.add_zero, setAll]) | (apply w_assign; exact rfl; exact rfl) | apply AWp.seq | apply AWp.region | apply AWp.ret | (apply w_len; exact rfl; exact rfl; first | exact .ints _ | exact .intss _ | exact .sli rfl | exact .sls rfl | exact .slr rfl | exact .orow rfl | exact .nil) | ((first | apply w_eql | apply w_sub | apply w_ld | apply w_fa); iterate 3 exact rfl) | ((apply w_boxa); iterate 2 exact rfl) | (apply w_ldb; iterate 5 exact rfl) | (apply inI_of <;> omega))
  all_goals exact .bool Try.results31 rfl rfl
end Go.Proofs.Ytlkhcelodcneiaa
/-
  A graph made ready for splice weights, walked: the program. No condition.
-/
namespace Go.Proofs.Ytlkhcelodcneiaa
open Go Go.RowKit
attribute [local irreducible] AWp AOps ResIs Ret1 QOp LOp COp AFnV AFn Imms LeE LeO
set_option maxHeartbeats 1000000
set_option linter.unusedSimpArgs false
set_option linter.unusedVariables false

instance : TFst Try.prog 43 := let ⟨i, h, _, h2, _⟩ := info_parts info29; ⟨⟨_, _, i, Try.underlying43, rfl, rfl, h, h2⟩⟩
instance : TNest Try.prog 43 (.slice none 0 0) (.slice none 0 0) (.slice none 0 0) := ⟨let ⟨i, h, h1, _, _⟩ := info_parts info43; ⟨i, h, h1⟩, ⟨_, Try.underlying43, by kernel_rfl⟩⟩
abbrev chQ (W : List Int) (E : List (List Int)) (v w : Int) (r : AV) : Prop :=
  r = if slC W E v w = 0 then .tup [.agg [.ints W, .intss E, .intss (nbs W E)], .i 0] else .tup [.agg [.val (.slice none 0 0), .val (.slice none 0 0), .val (.slice none 0 0)], .i (slC W E v w)]
set_option maxHeartbeats 8000000 in
theorem check_c (W : List Int) (E : List (List Int)) (v w : Int) : AFnK Try.prog 17 [.agg [.ints W, .intss E], .ints [v, w]] (chQ W E v w) := by
  have hg := isGraph_c W E
  cases hv : gok W E with
  | false =>
    rw [hv] at hg
    have e : slC W E v w = 1 := by unfold slC; rw [if_neg (by rw [hv]; simp)]
    unfold chQ
    rw [e, if_neg (by decide)]
    (refine AFnK.start Try.func17 Try.ntmps17 rfl (by kernel_rfl) (by simp [AV.hf1, AV.hf0]) fun K qo => ?_; simp only [Env.start, enumF, List.map_cons, List.map_nil, List.length_cons, List.length_nil, Nat.reduceAdd, Nat.zero_add, Nat.reduceSub, List.cons_append, List.nil_append])
    repeat' (first | (apply AOps.nil; try simp only [List.nil_append, List.cons_append, List.set_cons_zero, List.set_cons_succ, List.length_cons, List.length_nil, Nat.reduceAdd, AV.sh, AV.sh1, AV.sh0, AO.sh, List.map_cons, List.map_nil, Nat.zero_add, Nat.add_zero, setAll]) | (apply w_assign; exact rfl; exact rfl) | apply AWp.seq | apply AWp.region | (apply AWp.condT; exact rfl) | apply AWp.ret | (apply w_nest0; (exact rfl); (exact rfl); exact rfl; exact rfl) | (apply w_call (hg); exact rfl; exact rfl; focus ((repeat (first | exact im_nil | refine im_cons rfl (im_agg2 (.ints _) (.intss _)) ?_)); done)) | ((first | apply w_not | apply w_boxa); iterate 2 exact rfl) | (apply w_ldst; iterate 5 exact rfl) | (apply w_alst; iterate 2 exact rfl) | (apply w_stst; iterate 5 exact rfl))
    all_goals exact ⟨_, .c1u Try.results17 rfl rfl rfl rfl, ⟨_, rfl⟩, by simp [AV.hf, AV.hf1, AV.hf0], rfl⟩
  | true =>
    rw [hv] at hg
    have hok := gok_iff.1 hv
    have hn := hok.n
    have hG := hok.gr
    have hel := hG.e
    have hnb := neighboursOf_c W E hG
    have v1 := isVertex_c W E v (by omega)
    have v2 := isVertex_c W E w (by omega)
    have hcn := isConn_c W E (by omega) (by omega)
    unfold chQ
    by_cases cv : 0 ≤ v ∧ v ≤ (W.length : Int) - 1
    · rw [decide_eq_true cv] at v1
      by_cases cw : 0 ≤ w ∧ w ≤ (W.length : Int) - 1
      · rw [decide_eq_true cw] at v2
        have e : slC W E v w = if E.length + 1 = W.length then 0 else 5 := by unfold slC; rw [if_pos hv, if_pos (by omega)]
        rw [e]
        (refine AFnK.start Try.func17 Try.ntmps17 rfl (by kernel_rfl) (by simp [AV.hf1, AV.hf0]) fun K qo => ?_; simp only [Env.start, enumF, List.map_cons, List.map_nil, List.length_cons, List.length_nil, Nat.reduceAdd, Nat.zero_add, Nat.reduceSub, List.cons_append, List.nil_append])
        repeat' (first | (apply AOps.nil; try simp only [List.nil_append, List.cons_append, List.set_cons_zero, List.set_cons_succ, List.length_cons, List.length_nil, Nat.reduceAdd, AV.sh, AV.sh1, AV.sh0, AO.sh, List.map_cons, List.map_nil, Nat.zero_add, Nat.add_zero, setAll]) | (apply w_move; exact rfl; exact rfl) | (apply w_assign; exact rfl; exact rfl) | apply AWp.seq | apply AWp.region | (apply AWp.condF; exact rfl) | apply AWp.block | apply AWp.skip | (apply w_len; exact rfl; exact rfl; first | exact .ints _ | exact .intss _ | exact .sli rfl | exact .sls rfl | exact .slr rfl | exact .orow rfl | exact .nil) | (apply w_call (hg); exact rfl; exact rfl; focus ((repeat (first | exact im_nil | refine im_cons rfl (im_agg2 (.ints _) (.intss _)) ?_)); done)) | ((first | apply w_not | apply w_boxa); iterate 2 exact rfl) | (apply w_ldst; iterate 5 exact rfl) | (apply w_alst; iterate 2 exact rfl))
        refine AWp.loop (ι := Nat) (fun i => ⟨32, [(2, .optr 2 0), (4, .optr 3 0), (12, .ints [v, w]), (13, .i 2), (14, .i i)]⟩) (fun _ => [.keep 2 K, .ob qo, .bx 29 [.ints W, .intss E], .bx 43 [.val (.slice none 0 0), .val (.slice none 0 0), .val (.slice none 0 0)]]) (fun i => i ≤ 2) (fun i => 2 - i) 0 (Nat.zero_le _) ⟨lee rfl (by (repeat (first | exact le_nil | refine le_eq rfl rfl ?_))), by (repeat (first | exact lo_nil | refine lo_eq rfl ?_)), rfl, rfl⟩ ?_
        intro i i0
        rcases (show i = 0 ∨ i = 1 ∨ i = 2 by omega) with rfl | rfl | rfl
        · repeat' (first | (apply AOps.nil; try simp only [List.nil_append, List.cons_append, List.set_cons_zero, List.set_cons_succ, List.length_cons, List.length_nil, Nat.reduceAdd, AV.sh, AV.sh1, AV.sh0, AO.sh, List.map_cons, List.map_nil, Nat.zero_add, Nat.add_zero, setAll]) | (apply w_move; exact rfl; exact rfl) | (apply w_assign; exact rfl; exact rfl) | apply AWp.seq | apply AWp.region | ((apply AWp.condP; exact rfl) <;> intro h) | (apply AWp.condF; exact rfl) | apply AWp.block | apply AWp.exit | apply AWp.skip | (apply w_call (v1); exact rfl; exact rfl; focus ((repeat (first | exact im_nil | refine im_cons rfl (im_agg2 (.ints _) (.intss _)) ?_ | refine im_cons rfl (.val _) ?_)); done)) | omega | ((first | apply w_lss | apply w_add | apply w_idx | apply w_ld); iterate 3 exact rfl) | ((apply w_not); iterate 2 exact rfl) | (apply w_ldst; iterate 5 exact rfl) | (apply inI_of <;> omega))
          exact ⟨1, by omega, by omega, ⟨lee rfl (by (repeat (first | exact le_nil | refine le_eq rfl rfl ?_))), by (repeat (first | exact lo_nil | refine lo_eq rfl ?_)), rfl, rfl⟩⟩
        · repeat' (first | (apply AOps.nil; try simp only [List.nil_append, List.cons_append, List.set_cons_zero, List.set_cons_succ, List.length_cons, List.length_nil, Nat.reduceAdd, AV.sh, AV.sh1, AV.sh0, AO.sh, List.map_cons, List.map_nil, Nat.zero_add, Nat.add_zero, setAll]) | (apply w_move; exact rfl; exact rfl) | (apply w_assign; exact rfl; exact rfl) | apply AWp.seq | apply AWp.region | ((apply AWp.condP; exact rfl) <;> intro h) | (apply AWp.condF; exact rfl) | apply AWp.block | apply AWp.exit | apply AWp.skip | (apply w_call (v2); exact rfl; exact rfl; focus ((repeat (first | exact im_nil | refine im_cons rfl (im_agg2 (.ints _) (.intss _)) ?_ | refine im_cons rfl (.val _) ?_)); done)) | omega | ((first | apply w_lss | apply w_add | apply w_idx | apply w_ld); iterate 3 exact rfl) | ((apply w_not); iterate 2 exact rfl) | (apply w_ldst; iterate 5 exact rfl) | (apply inI_of <;> omega))
          exact ⟨2, by omega, by omega, ⟨lee rfl (by (repeat (first | exact le_nil | refine le_eq rfl rfl ?_))), by (repeat (first | exact lo_nil | refine lo_eq rfl ?_)), rfl, rfl⟩⟩
        · by_cases c : E.length + 1 = W.length
          · rw [if_pos c, if_pos rfl]
            rw [decide_eq_true (show (E.length : Int) = (W.length : Int) - 1 by omega)] at hcn
            repeat' (first | (apply AOps.nil; try simp only [List.nil_append, List.cons_append, List.set_cons_zero, List.set_cons_succ, List.length_cons, List.length_nil, Nat.reduceAdd, AV.sh, AV.sh1, AV.sh0, AO.sh, List.map_cons, List.map_nil, Nat.zero_add, Nat.add_zero, setAll]) | apply AWp.seq | apply AWp.region | ((apply AWp.condP; exact rfl) <;> intro h) | (apply AWp.condF; exact rfl) | apply AWp.block | apply AWp.exit | apply AWp.skip | (apply w_call (hcn); exact rfl; exact rfl; focus ((repeat (first | exact im_nil | refine im_cons rfl (im_agg2 (.ints _) (.intss _)) ?_)); done)) | omega | ((apply w_lss); iterate 3 exact rfl) | ((apply w_not); iterate 2 exact rfl) | (apply w_ldst; iterate 5 exact rfl))
            refine AWp.regionG [] (by kernel_rfl) (envC := ⟨32, [(4, .optr 3 0), (5, .i 0)]⟩) (osC := [.keep 2 K, .ob qo, .bx 29 [.ints W, .intss E], .bx 43 [.ints W, .intss E, .own 4], .sls 22 2 (nbs W E)]) rfl rfl ?_ ?_
            · repeat' (first | (apply AOps.nil; try simp only [List.nil_append, List.cons_append, List.set_cons_zero, List.set_cons_succ, List.length_cons, List.length_nil, Nat.reduceAdd, AV.sh, AV.sh1, AV.sh0, AO.sh, List.map_cons, List.map_nil, Nat.zero_add, Nat.add_zero, setAll]) | (apply w_assign; exact rfl; exact rfl) | (apply w_nest2; (exact rfl); (exact rfl); exact rfl; (exact one_own rfl True.intro)) | apply AllOfG.nil | (apply AllOfG.consQ; exact rfl; exact rfl) | (apply AllOfG.consS; exact rfl; exact rfl) | (apply AAnyG.takeW; exact rfl; exact rfl; kernel_rfl; kernel_rfl) | (apply AAnyG.takeL; exact rfl; exact rfl; kernel_rfl) | (apply AAnyG.all; exact rfl) | (apply AAnyG.done; exact rfl) | (apply w_callm (hnb); (focus ((repeat (first | exact im_nil | refine im_cons rfl (im_agg2 (.ints _) (.intss _)) ?_)); done)); rintro r os0 ⟨rfl, rfl⟩; try simp only [List.nil_append, List.cons_append, List.set_cons_zero, List.set_cons_succ, List.length_cons, List.length_nil, Nat.reduceAdd, AV.sh, AV.sh1, AV.sh0, AO.sh, List.map_cons, List.map_nil, Nat.zero_add, Nat.add_zero, setAll]) | (apply w_ldst; iterate 5 exact rfl) | (apply w_stst; iterate 5 exact rfl))
              all_goals (apply Or.inl; refine ⟨lee rfl ?_, ?_, rfl, rfl⟩; (focus ((repeat (first | exact le_nil | refine le_eq rfl rfl ?_)); done)); (focus ((repeat (first | exact lo_nil | refine lo_eq rfl ?_)); done)))
            refine AWp.turns (Turns.freeze (k := 4) rfl) ?_
            simp only [Env.mp, List.map_cons, List.map_nil, List.set_cons_zero, List.set_cons_succ, AV.frz, AV.frz1, AO.frz, bL_frz, reduceIte, Nat.reduceEqDiff, Nat.zero_ne_one, Nat.one_ne_zero]
            repeat' (apply AWp.ret)
            all_goals exact ⟨_, .c1u Try.results17 rfl rfl rfl rfl, ⟨_, rfl⟩, by simp [AV.hf, AV.hf1, AV.hf0], rfl⟩
          · rw [if_neg c, if_neg (by decide)]
            rw [decide_eq_false (show ¬ (E.length : Int) = (W.length : Int) - 1 by omega)] at hcn
            repeat' (first | (apply AOps.nil; try simp only [List.nil_append, List.cons_append, List.set_cons_zero, List.set_cons_succ, List.length_cons, List.length_nil, Nat.reduceAdd, AV.sh, AV.sh1, AV.sh0, AO.sh, List.map_cons, List.map_nil, Nat.zero_add, Nat.add_zero, setAll]) | (apply w_assign; exact rfl; exact rfl) | apply AWp.seq | apply AWp.region | ((apply AWp.condP; exact rfl) <;> intro h) | (apply AWp.condT; exact rfl) | apply AWp.block | apply AWp.ret | apply AWp.exit | apply AWp.skip | (apply w_nest0; (exact rfl); (exact rfl); exact rfl; exact rfl) | (apply w_call (hcn); exact rfl; exact rfl; focus ((repeat (first | exact im_nil | refine im_cons rfl (im_agg2 (.ints _) (.intss _)) ?_)); done)) | omega | ((apply w_lss); iterate 3 exact rfl) | ((apply w_not); iterate 2 exact rfl) | (apply w_ldst; iterate 5 exact rfl) | (apply w_stst; iterate 5 exact rfl))
            all_goals exact ⟨_, .c1u Try.results17 rfl rfl rfl rfl, ⟨_, rfl⟩, by simp [AV.hf, AV.hf1, AV.hf0], rfl⟩
      · rw [decide_eq_false cw] at v2
        have e : slC W E v w = 2 := by unfold slC; rw [if_pos hv, if_neg (by omega)]
        rw [e, if_neg (by decide)]
        (refine AFnK.start Try.func17 Try.ntmps17 rfl (by kernel_rfl) (by simp [AV.hf1, AV.hf0]) fun K qo => ?_; simp only [Env.start, enumF, List.map_cons, List.map_nil, List.length_cons, List.length_nil, Nat.reduceAdd, Nat.zero_add, Nat.reduceSub, List.cons_append, List.nil_append])
        repeat' (first | (apply AOps.nil; try simp only [List.nil_append, List.cons_append, List.set_cons_zero, List.set_cons_succ, List.length_cons, List.length_nil, Nat.reduceAdd, AV.sh, AV.sh1, AV.sh0, AO.sh, List.map_cons, List.map_nil, Nat.zero_add, Nat.add_zero, setAll]) | (apply w_move; exact rfl; exact rfl) | (apply w_assign; exact rfl; exact rfl) | apply AWp.seq | apply AWp.region | (apply AWp.condF; exact rfl) | apply AWp.block | apply AWp.skip | (apply w_len; exact rfl; exact rfl; first | exact .ints _ | exact .intss _ | exact .sli rfl | exact .sls rfl | exact .slr rfl | exact .orow rfl | exact .nil) | (apply w_call (hg); exact rfl; exact rfl; focus ((repeat (first | exact im_nil | refine im_cons rfl (im_agg2 (.ints _) (.intss _)) ?_)); done)) | ((first | apply w_not | apply w_boxa); iterate 2 exact rfl) | (apply w_ldst; iterate 5 exact rfl) | (apply w_alst; iterate 2 exact rfl))
        refine AWp.loop (ι := Nat) (fun i => ⟨32, [(2, .optr 2 0), (4, .optr 3 0), (12, .ints [v, w]), (13, .i 2), (14, .i i)]⟩) (fun _ => [.keep 2 K, .ob qo, .bx 29 [.ints W, .intss E], .bx 43 [.val (.slice none 0 0), .val (.slice none 0 0), .val (.slice none 0 0)]]) (fun i => i ≤ 1) (fun i => 1 - i) 0 (Nat.zero_le _) ⟨lee rfl (by (repeat (first | exact le_nil | refine le_eq rfl rfl ?_))), by (repeat (first | exact lo_nil | refine lo_eq rfl ?_)), rfl, rfl⟩ ?_
        intro i i0
        rcases (show i = 0 ∨ i = 1 by omega) with rfl | rfl
        · repeat' (first | (apply AOps.nil; try simp only [List.nil_append, List.cons_append, List.set_cons_zero, List.set_cons_succ, List.length_cons, List.length_nil, Nat.reduceAdd, AV.sh, AV.sh1, AV.sh0, AO.sh, List.map_cons, List.map_nil, Nat.zero_add, Nat.add_zero, setAll]) | (apply w_move; exact rfl; exact rfl) | (apply w_assign; exact rfl; exact rfl) | apply AWp.seq | apply AWp.region | ((apply AWp.condP; exact rfl) <;> intro h) | (apply AWp.condF; exact rfl) | apply AWp.block | apply AWp.exit | apply AWp.skip | (apply w_call (v1); exact rfl; exact rfl; focus ((repeat (first | exact im_nil | refine im_cons rfl (im_agg2 (.ints _) (.intss _)) ?_ | refine im_cons rfl (.val _) ?_)); done)) | omega | ((first | apply w_lss | apply w_add | apply w_idx | apply w_ld); iterate 3 exact rfl) | ((apply w_not); iterate 2 exact rfl) | (apply w_ldst; iterate 5 exact rfl) | (apply inI_of <;> omega))
          exact ⟨1, by omega, by omega, ⟨lee rfl (by (repeat (first | exact le_nil | refine le_eq rfl rfl ?_))), by (repeat (first | exact lo_nil | refine lo_eq rfl ?_)), rfl, rfl⟩⟩
        · repeat' (first | (apply AOps.nil; try simp only [List.nil_append, List.cons_append, List.set_cons_zero, List.set_cons_succ, List.length_cons, List.length_nil, Nat.reduceAdd, AV.sh, AV.sh1, AV.sh0, AO.sh, List.map_cons, List.map_nil, Nat.zero_add, Nat.add_zero, setAll]) | (apply w_move; exact rfl; exact rfl) | (apply w_assign; exact rfl; exact rfl) | apply AWp.seq | apply AWp.region | ((apply AWp.condP; exact rfl) <;> intro h) | (apply AWp.condT; exact rfl) | apply AWp.block | apply AWp.ret | apply AWp.exit | apply AWp.skip | (apply w_nest0; (exact rfl); (exact rfl); exact rfl; exact rfl) | (apply w_call (v2); exact rfl; exact rfl; focus ((repeat (first | exact im_nil | refine im_cons rfl (im_agg2 (.ints _) (.intss _)) ?_ | refine im_cons rfl (.val _) ?_)); done)) | omega | ((first | apply w_lss | apply w_idx | apply w_ld); iterate 3 exact rfl) | ((apply w_not); iterate 2 exact rfl) | (apply w_ldst; iterate 5 exact rfl) | (apply w_stst; iterate 5 exact rfl))
          all_goals exact ⟨_, .c1u Try.results17 rfl rfl rfl rfl, ⟨_, rfl⟩, by simp [AV.hf, AV.hf1, AV.hf0], rfl⟩
    · rw [decide_eq_false cv] at v1
      have e : slC W E v w = 2 := by unfold slC; rw [if_pos hv, if_neg (by omega)]
      rw [e, if_neg (by decide)]
      (refine AFnK.start Try.func17 Try.ntmps17 rfl (by kernel_rfl) (by simp [AV.hf1, AV.hf0]) fun K qo => ?_; simp only [Env.start, enumF, List.map_cons, List.map_nil, List.length_cons, List.length_nil, Nat.reduceAdd, Nat.zero_add, Nat.reduceSub, List.cons_append, List.nil_append])
      repeat' (first | (apply AOps.nil; try simp only [List.nil_append, List.cons_append, List.set_cons_zero, List.set_cons_succ, List.length_cons, List.length_nil, Nat.reduceAdd, AV.sh, AV.sh1, AV.sh0, AO.sh, List.map_cons, List.map_nil, Nat.zero_add, Nat.add_zero, setAll]) | (apply w_move; exact rfl; exact rfl) | (apply w_assign; exact rfl; exact rfl) | apply AWp.seq | apply AWp.region | (apply AWp.condF; exact rfl) | apply AWp.block | apply AWp.skip | (apply w_len; exact rfl; exact rfl; first | exact .ints _ | exact .intss _ | exact .sli rfl | exact .sls rfl | exact .slr rfl | exact .orow rfl | exact .nil) | (apply w_call (hg); exact rfl; exact rfl; focus ((repeat (first | exact im_nil | refine im_cons rfl (im_agg2 (.ints _) (.intss _)) ?_)); done)) | ((first | apply w_not | apply w_boxa); iterate 2 exact rfl) | (apply w_ldst; iterate 5 exact rfl) | (apply w_alst; iterate 2 exact rfl))
      refine AWp.loop (ι := Nat) (fun i => ⟨32, [(2, .optr 2 0), (4, .optr 3 0), (12, .ints [v, w]), (13, .i 2), (14, .i i)]⟩) (fun _ => [.keep 2 K, .ob qo, .bx 29 [.ints W, .intss E], .bx 43 [.val (.slice none 0 0), .val (.slice none 0 0), .val (.slice none 0 0)]]) (fun i => i ≤ 0) (fun i => 0 - i) 0 (Nat.zero_le _) ⟨lee rfl (by (repeat (first | exact le_nil | refine le_eq rfl rfl ?_))), by (repeat (first | exact lo_nil | refine lo_eq rfl ?_)), rfl, rfl⟩ ?_
      intro i i0
      obtain rfl : i = 0 := by omega
      repeat' (first | (apply AOps.nil; try simp only [List.nil_append, List.cons_append, List.set_cons_zero, List.set_cons_succ, List.length_cons, List.length_nil, Nat.reduceAdd, AV.sh, AV.sh1, AV.sh0, AO.sh, List.map_cons, List.map_nil, Nat.zero_add, Nat.add_zero, setAll]) | (apply w_move; exact rfl; exact rfl) | (apply w_assign; exact rfl; exact rfl) | apply AWp.seq | apply AWp.region | ((apply AWp.condP; exact rfl) <;> intro h) | (apply AWp.condT; exact rfl) | apply AWp.block | apply AWp.ret | apply AWp.exit | apply AWp.skip | (apply w_nest0; (exact rfl); (exact rfl); exact rfl; exact rfl) | (apply w_call (v1); exact rfl; exact rfl; focus ((repeat (first | exact im_nil | refine im_cons rfl (im_agg2 (.ints _) (.intss _)) ?_ | refine im_cons rfl (.val _) ?_)); done)) | omega | ((first | apply w_lss | apply w_idx | apply w_ld); iterate 3 exact rfl) | ((apply w_not); iterate 2 exact rfl) | (apply w_ldst; iterate 5 exact rfl) | (apply w_stst; iterate 5 exact rfl))
      all_goals exact ⟨_, .c1u Try.results17 rfl rfl rfl rfl, ⟨_, rfl⟩, by simp [AV.hf, AV.hf1, AV.hf0], rfl⟩
end Go.Proofs.Ytlkhcelodcneiaa
/-
  The splice weight, walked: the program. No condition.
-/
namespace Go.Proofs.Ytlkhcelodcneiaa
open Go Go.RowKit
attribute [local irreducible] AWp AOps ResIs Ret1 QOp LOp COp AFnV AFn Imms LeE LeO
set_option maxHeartbeats 1000000
set_option linter.unusedSimpArgs false
set_option linter.unusedVariables false

theorem mk_kpb {W : List Int} {E : List (List Int)} {v w : Int} (hG : GrF W E) (rv : 0 ≤ v ∧ v < W.length) (hw : w ∈ nearL E v) : mk (nearL E) W.length w v (List.replicate W.length false) = kpb W E v w := by
  have hT := trC_ok hG.fo.fst rv
  obtain ⟨q, q1, q2⟩ := hT.rank
  have hwr := (hG.fo.fst.bnd _ _ hw).1
  obtain ⟨c1, c2, c3⟩ := hT.ch hT.rt hw (by rw [hT.pr]; omega)
  have hlen : (mk (nearL E) W.length w v (List.replicate W.length false)).length = W.length := by rw [mk_len]; simp
  apply List.ext_getElem (by rw [hlen, kpb_len])
  intro x h1 h2
  have hx : x < W.length := by omega
  have e := mk_get hT q q1 q2 W.length w (List.replicate W.length false) c1 (by omega) (by simp) x hx
  rw [c3] at e
  have e2 := kpb_get (W := W) (E := E) (v := v) (w := w) hx
  have e3 : (List.replicate W.length false).getD x false = false := by simp [List.getD_eq_getElem?_getD, hx]
  rw [e3] at e
  rw [List.getD_eq_getElem?_getD, List.getElem?_eq_getElem h1, Option.getD_some] at e
  rw [List.getD_eq_getElem?_getD, List.getElem?_eq_getElem h2, Option.getD_some] at e2
  rw [Bool.eq_iff_iff, e, e2]
  simp
theorem weight_c (W : List Int) (E : List (List Int)) (v w : Int) (hG : GrF W E) (rv : 0 ≤ v ∧ v < W.length) (hw : w ∈ nearL E v) (hall : ∀ x : Int, 0 ≤ x ∧ x < W.length → x ∈ (trC W.length (nearL E) v).1) :
    AFnV Try.prog 20 [.agg [.ints W, .intss E, .intss (nbs W E)], .i v, .i w] (.tuple #[.int .i64 (swD W E v w).1, .bool (swD W E v w).2]) := by
  have hn := hG.n
  have hT := trC_ok hG.fo.fst rv
  obtain ⟨q, q1, q2⟩ := hT.rank
  have hwr := (hG.fo.fst.bnd _ _ hw).1
  obtain ⟨c1, c2, c3⟩ := hT.ch hT.rt hw (by rw [hT.pr]; omega)
  have hb := behind_c hT (by omega) (by omega) W E (nbs W E) (by simp [nbs]) (fun i h0 h1 => by
    obtain ⟨m, rfl⟩ := Int.eq_ofNat_of_zero_le h0
    exact nbs_get (by omega)) (fun i => by have := near_len hG i; omega) w c1 c3 q q1 q2
  rw [mk_kpb hG rv hw] at hb
  have hd := setDet_c W E (kpb W E v w) hG (kpb_len W E v w) (kpb_sub hG rv hw hall)
  unfold swD
  generalize (gdV (subW W (bF (kpb W E v w))) (subE E (bF (kpb W E v w)))).1 = d at *
  generalize (gdV (subW W (bF (kpb W E v w))) (subE E (bF (kpb W E v w)))).2 = b at *
  (refine AFnV.start Try.func20 Try.ntmps20 rfl (by kernel_rfl) fun hk => ?_; simp only [Env.start, enumF, List.length_cons, List.length_nil, Nat.reduceAdd, Nat.reduceSub, List.cons_append, List.nil_append])
  repeat' (first | (apply AOps.nil; try simp only [List.nil_append, List.cons_append, List.set_cons_zero, List.set_cons_succ, List.length_cons, List.length_nil, Nat.reduceAdd, AV.sh, AV.sh1, AV.sh0, AO.sh, List.map_cons, List.map_nil, Nat.zero_add, Nat.add_zero, setAll]) | (apply w_assign; exact rfl; exact rfl) | apply AWp.seq | apply AWp.region | ((apply w_boxa); iterate 2 exact rfl))
  refine AWp.regionG [] (by kernel_rfl) (envC := ⟨17, [(6, .i d), (7, .b b)]⟩) (osC := []) rfl rfl ?_ ?_
  · repeat' (first | (apply AOps.nil; try simp only [List.nil_append, List.cons_append, List.set_cons_zero, List.set_cons_succ, List.length_cons, List.length_nil, Nat.reduceAdd, AV.sh, AV.sh1, AV.sh0, AO.sh, List.map_cons, List.map_nil, Nat.zero_add, Nat.add_zero, setAll]) | (apply w_move; exact rfl; exact rfl) | (apply w_assign; exact rfl; exact rfl) | (apply w_fa0; (exact rfl); exact rfl) | (apply w_ld2; (exact rfl); exact rfl; exact rfl; exact rfl) | apply AllOfG.nil | (apply AllOfG.consQ; exact rfl; exact rfl) | (apply AllOfG.consS; exact rfl; exact rfl) | (apply AAnyG.takeW; exact rfl; exact rfl; kernel_rfl; kernel_rfl) | (apply AAnyG.takeL; exact rfl; exact rfl; kernel_rfl) | (apply AAnyG.all; exact rfl) | (apply AAnyG.done; exact rfl) | (apply w_callm (hb); (focus ((repeat (first | exact im_nil | refine im_cons rfl (im_agg3 (.ints _) (.intss _) (.intss _)) ?_ | refine im_cons rfl (.val _) ?_)); done)); rintro r os0 ⟨rfl, rfl⟩; try simp only [bL_sh, List.nil_append, List.cons_append, List.set_cons_zero, List.set_cons_succ, List.length_cons, List.length_nil, Nat.reduceAdd, AV.sh, AV.sh1, AV.sh0, AO.sh, List.map_cons, List.map_nil, Nat.zero_add, Nat.add_zero, setAll]) | (apply w_call (hd); exact rfl; exact rfl; focus ((repeat (first | exact im_nil | refine im_cons rfl (im_agg2 (.ints _) (.intss _)) ?_ | refine im_cons rfl (.sem _ (reads_bl rfl)) ?_)); done)) | ((apply w_extv); iterate 3 exact rfl) | (apply w_ldst; iterate 5 exact rfl))
    all_goals (apply Or.inl; refine ⟨lee rfl ?_, ?_, rfl, rfl⟩; (focus ((repeat (first | exact le_nil | refine le_eq rfl rfl ?_)); done)); (focus ((repeat (exact lo_nil)); done)))
  repeat' (apply AWp.ret)
  all_goals exact .vv2 Try.results20 rfl rfl
end Go.Proofs.Ytlkhcelodcneiaa
/-
  The splice weight and its code, walked: the program. No condition.
-/
namespace Go.Proofs.Ytlkhcelodcneiaa
open Go Go.RowKit
attribute [local irreducible] AWp AOps ResIs Ret1 QOp LOp COp AFnV AFn Imms LeE LeO
set_option maxHeartbeats 1000000
set_option linter.unusedSimpArgs false
set_option linter.unusedVariables false

theorem edge_near {W : List Int} {E : List (List Int)} (hG : GrF W E) (v w : Int) : decide ([min v w, max v w] ∈ E) = decide (w ∈ nearL E v) := by
  have hE := hG.fo.row
  have hm := near_mem (fun e he => (hE e he).1) (u := w) (v := v)
  rw [Bool.eq_iff_iff, decide_eq_true_iff, decide_eq_true_iff, hm]
  have ho : ∀ {a b : Int}, [a, b] ∈ E → a < b := fun h => by
    have := (hE _ h).2.2.1
    simpa [geti] using this
  constructor
  · intro h
    have := ho h
    rcases Int.le_total v w with c | c
    · rw [Int.min_eq_left c, Int.max_eq_right c] at h; exact .inr h
    · rw [Int.min_eq_right c, Int.max_eq_left c] at h; exact .inl h
  · rintro (h | h)
    · have := ho h
      rw [Int.min_eq_right (by omega), Int.max_eq_left (by omega)]; exact h
    · have := ho h
      rw [Int.min_eq_left (by omega), Int.max_eq_right (by omega)]; exact h
set_option maxHeartbeats 8000000 in
theorem implSW_c (W : List Int) (E : List (List Int)) (v w : Int) (iv : inI v) (iw : inI w) : AFnV Try.prog 7 [.agg [.ints W, .intss E], .i v, .i w] (.tuple #[.int .i64 (swV W E v w).1, .int .i64 (swV W E v w).2]) := by
  have hc := check_c W E v w
  have iv0 := iv
  have iw0 := iw
  unfold inI at iv iw
  unfold chQ at hc
  by_cases h0 : slC W E v w = 0
  · obtain ⟨hv, ⟨rv, rw'⟩, hcon⟩ := slC_0 h0
    have hG := (gok_iff.1 hv).gr
    have hel := hG.e
    have hF := hG.fo.fst
    rw [if_pos h0] at hc
    have hh := hasEdge_c W E v w iv0 iw0 (by omega)
    rw [edge_near hG] at hh
    by_cases hw : w ∈ nearL E v
    · rw [decide_eq_true hw] at hh
      have hT := trC_ok hF rv
      have hall := one_root hF ((one_rt hv).2 hcon) rv hT
      have hwt := weight_c W E v w hG rv hw hall
      have e : swV W E v w = if (swD W E v w).2 = true then ((swD W E v w).1, 0) else (0, 3) := by unfold swV; rw [if_pos h0, if_pos hw]
      have hlm := limited_c (swD W E v w).1 (swD W E v w).2
      have e1 : (swV W E v w).1 = if (swD W E v w).2 = true then (swD W E v w).1 else 0 := by rw [e]; split <;> rfl
      have e2 : (swV W E v w).2 = if (swD W E v w).2 = true then 0 else 3 := by rw [e]; split <;> rfl
      rw [e1, e2]
      generalize (swD W E v w).1 = d at *
      generalize (swD W E v w).2 = b at *
      (refine AFnV.start Try.func7 Try.ntmps7 rfl (by kernel_rfl) fun hk => ?_; simp only [Env.start, enumF, List.length_cons, List.length_nil, Nat.reduceAdd, Nat.reduceSub, List.cons_append, List.nil_append])
      repeat' (first | (apply AOps.nil; try simp only [List.nil_append, List.cons_append, List.set_cons_zero, List.set_cons_succ, List.length_cons, List.length_nil, Nat.reduceAdd, AV.sh, AV.sh1, AV.sh0, AO.sh, List.map_cons, List.map_nil, Nat.zero_add, Nat.add_zero, setAll]) | (apply w_move; exact rfl; exact rfl) | (apply w_assign; exact rfl; exact rfl) | apply AWp.seq | apply AWp.region | omega | ((apply w_bs2); iterate 3 exact rfl) | ((apply w_boxa); iterate 2 exact rfl) | (apply w_ldst; iterate 5 exact rfl))
      refine AOps.turns (Turns.freezeI (k := 1) rfl) ?_
      simp only [Env.mp, List.map_cons, List.map_nil, List.set_cons_zero, List.set_cons_succ, AV.frzI, AV.frzI1, AO.frzI, reduceIte, Nat.reduceEqDiff, Nat.zero_ne_one, Nat.one_ne_zero]
      refine w_callK hc rfl fun r hr => ?_
      subst hr
      repeat' (first | (apply AOps.nil; try simp only [List.nil_append, List.cons_append, List.set_cons_zero, List.set_cons_succ, List.length_cons, List.length_nil, Nat.reduceAdd, AV.sh, AV.sh1, AV.sh0, AO.sh, List.map_cons, List.map_nil, Nat.zero_add, Nat.add_zero, setAll]) | (apply w_move; exact rfl; exact rfl) | (apply w_assign; exact rfl; exact rfl) | apply AWp.seq | apply AWp.region | ((apply AWp.condP; exact rfl) <;> intro h) | (apply AWp.condF; exact rfl) | apply AWp.ret | apply AWp.skip | (apply w_call (hh); exact rfl; exact rfl; focus ((repeat (first | exact im_nil | refine im_cons rfl (im_agg2 (.ints _) (.intss _)) ?_ | refine im_cons rfl (.val _) ?_)); done)) | (apply w_call (hwt); exact rfl; exact rfl; focus ((repeat (first | exact im_nil | refine im_cons rfl (im_agg3 (.ints _) (.intss _) (.intss _)) ?_ | refine im_cons rfl (.val _) ?_)); done)) | (apply w_call (hlm); exact rfl; exact rfl; focus ((repeat (first | exact im_nil | refine im_cons rfl (.val _) ?_)); done)) | omega | ((first | apply w_neq | apply w_extv); iterate 3 exact rfl) | ((apply w_ext); iterate 3 exact rfl) | ((apply w_not); iterate 2 exact rfl) | (apply w_ldst; iterate 5 exact rfl) | (apply w_alst; iterate 2 exact rfl) | (apply w_stst; iterate 5 exact rfl))
      all_goals exact .vv2 Try.results7 rfl rfl
    · rw [decide_eq_false hw] at hh
      have e : swV W E v w = (0, 5) := by unfold swV; rw [if_pos h0, if_neg hw]
      rw [e]
      (refine AFnV.start Try.func7 Try.ntmps7 rfl (by kernel_rfl) fun hk => ?_; simp only [Env.start, enumF, List.length_cons, List.length_nil, Nat.reduceAdd, Nat.reduceSub, List.cons_append, List.nil_append])
      repeat' (first | (apply AOps.nil; try simp only [List.nil_append, List.cons_append, List.set_cons_zero, List.set_cons_succ, List.length_cons, List.length_nil, Nat.reduceAdd, AV.sh, AV.sh1, AV.sh0, AO.sh, List.map_cons, List.map_nil, Nat.zero_add, Nat.add_zero, setAll]) | (apply w_move; exact rfl; exact rfl) | (apply w_assign; exact rfl; exact rfl) | apply AWp.seq | apply AWp.region | omega | ((apply w_bs2); iterate 3 exact rfl) | ((apply w_boxa); iterate 2 exact rfl) | (apply w_ldst; iterate 5 exact rfl))
      refine AOps.turns (Turns.freezeI (k := 1) rfl) ?_
      simp only [Env.mp, List.map_cons, List.map_nil, List.set_cons_zero, List.set_cons_succ, AV.frzI, AV.frzI1, AO.frzI, reduceIte, Nat.reduceEqDiff, Nat.zero_ne_one, Nat.one_ne_zero]
      refine w_callK hc rfl fun r hr => ?_
      subst hr
      repeat' (first | (apply AOps.nil; try simp only [List.nil_append, List.cons_append, List.set_cons_zero, List.set_cons_succ, List.length_cons, List.length_nil, Nat.reduceAdd, AV.sh, AV.sh1, AV.sh0, AO.sh, List.map_cons, List.map_nil, Nat.zero_add, Nat.add_zero, setAll]) | (apply w_move; exact rfl; exact rfl) | (apply w_assign; exact rfl; exact rfl) | apply AWp.seq | apply AWp.region | ((apply AWp.condP; exact rfl) <;> intro h) | (apply AWp.condT; exact rfl) | apply AWp.ret | apply AWp.skip | (apply w_call (hh); exact rfl; exact rfl; focus ((repeat (first | exact im_nil | refine im_cons rfl (im_agg2 (.ints _) (.intss _)) ?_ | refine im_cons rfl (.val _) ?_)); done)) | omega | ((first | apply w_neq | apply w_extv); iterate 3 exact rfl) | ((apply w_ext); iterate 3 exact rfl) | ((apply w_not); iterate 2 exact rfl) | (apply w_ldst; iterate 5 exact rfl) | (apply w_alst; iterate 2 exact rfl) | (apply w_stst; iterate 5 exact rfl))
      all_goals exact .vv2 Try.results7 rfl rfl
  · have e : swV W E v w = (0, slC W E v w) := by unfold swV; rw [if_neg h0]
    rw [if_neg h0] at hc
    rw [e]
    generalize slC W E v w = c at *
    (refine AFnV.start Try.func7 Try.ntmps7 rfl (by kernel_rfl) fun hk => ?_; simp only [Env.start, enumF, List.length_cons, List.length_nil, Nat.reduceAdd, Nat.reduceSub, List.cons_append, List.nil_append])
    repeat' (first | (apply AOps.nil; try simp only [List.nil_append, List.cons_append, List.set_cons_zero, List.set_cons_succ, List.length_cons, List.length_nil, Nat.reduceAdd, AV.sh, AV.sh1, AV.sh0, AO.sh, List.map_cons, List.map_nil, Nat.zero_add, Nat.add_zero, setAll]) | (apply w_move; exact rfl; exact rfl) | (apply w_assign; exact rfl; exact rfl) | apply AWp.seq | apply AWp.region | omega | ((apply w_bs2); iterate 3 exact rfl) | ((apply w_boxa); iterate 2 exact rfl) | (apply w_ldst; iterate 5 exact rfl))
    refine AOps.turns (Turns.freezeI (k := 1) rfl) ?_
    simp only [Env.mp, List.map_cons, List.map_nil, List.set_cons_zero, List.set_cons_succ, AV.frzI, AV.frzI1, AO.frzI, reduceIte, Nat.reduceEqDiff, Nat.zero_ne_one, Nat.one_ne_zero]
    refine w_callK hc rfl fun r hr => ?_
    subst hr
    repeat' (first | (apply AOps.nil; try simp only [List.nil_append, List.cons_append, List.set_cons_zero, List.set_cons_succ, List.length_cons, List.length_nil, Nat.reduceAdd, AV.sh, AV.sh1, AV.sh0, AO.sh, List.map_cons, List.map_nil, Nat.zero_add, Nat.add_zero, setAll]) | (apply w_move; exact rfl; exact rfl) | (apply w_assign; exact rfl; exact rfl) | apply AWp.seq | apply AWp.region | ((apply AWp.condP; exact rfl) <;> intro h) | apply AWp.ret | apply AWp.skip | omega | ((first | apply w_neq | apply w_extv); iterate 3 exact rfl) | ((apply w_ext); iterate 3 exact rfl) | (apply w_alst; iterate 2 exact rfl) | (apply w_stst; iterate 5 exact rfl))
    all_goals exact .vv2 Try.results7 rfl rfl
end Go.Proofs.Ytlkhcelodcneiaa
/-
  Laws on graphs: sizes, copies. No condition but sizes.
-/
namespace Go.Proofs.Ytlkhcelodcneiaa
open Go Go.RowKit
attribute [local irreducible] AWp AOps ResIs Ret1 QOp LOp COp AFnV AFn Imms LeE LeO
set_option maxHeartbeats 1000000
set_option linter.unusedSimpArgs false
set_option linter.unusedVariables false

def szGr (W : List Int) (E : List (List Int)) (left : Int) : Int := if szI W left < 0 then -1 else if szSS E (szI W left) < 0 then -1 else szSS E (szI W left)
theorem szGraph_c (W : List Int) (E : List (List Int)) : AFnV Try.prog 4 [.agg [.ints W, .intss E], .i 1048576] (.int .i64 (szGr W E 1048576)) := by
  have s1 := szInt64S_c W 1048576 (by omega) (by omega)
  have h0 : -1 ≤ szI W 1048576 ∧ szI W 1048576 ≤ 1048576 := by unfold szI; split <;> omega
  have s2 := szInt64SS_c E (szI W 1048576) h0.1 h0.2
  unfold szGr
  generalize hb : szSS E (szI W 1048576) = b at *
  generalize ha : szI W 1048576 = a at *
  by_cases c1 : a < 0
  · rw [if_pos c1]
    (refine AFnV.start Try.func4 Try.ntmps4 rfl (by kernel_rfl) fun hk => ?_; simp only [Env.start, enumF, List.length_cons, List.length_nil, Nat.reduceAdd, Nat.reduceSub, List.cons_append, List.nil_append])
    repeat' (first | (apply AOps.nil; try simp only [List.nil_append, List.cons_append, List.set_cons_zero, List.set_cons_succ, List.length_cons, List.length_nil, Nat.reduceAdd, AV.sh, AV.sh1, AV.sh0, AO.sh, List.map_cons, List.map_nil, Nat.zero_add, Nat.add_zero, setAll]) | (apply w_move; exact rfl; exact rfl) | (apply w_assign; exact rfl; exact rfl) | apply AWp.seq | apply AWp.region | ((apply AWp.condP; exact rfl) <;> intro h) | apply AWp.ret | apply AWp.skip | (apply w_call (s1); exact rfl; exact rfl; focus ((repeat (first | exact im_nil | refine im_cons rfl (.val _) ?_ | refine im_cons rfl (.ints _) ?_)); done)) | omega | ((first | apply w_lss | apply w_ld | apply w_fa); iterate 3 exact rfl) | ((apply w_boxa); iterate 2 exact rfl) | (apply w_ldb; iterate 5 exact rfl))
    all_goals try (exfalso; omega)
    all_goals exact .int Try.results4 rfl rfl
  · rw [if_neg c1]
    by_cases c2 : b < 0
    · rw [if_pos c2]
      (refine AFnV.start Try.func4 Try.ntmps4 rfl (by kernel_rfl) fun hk => ?_; simp only [Env.start, enumF, List.length_cons, List.length_nil, Nat.reduceAdd, Nat.reduceSub, List.cons_append, List.nil_append])
      repeat' (first | (apply AOps.nil; try simp only [List.nil_append, List.cons_append, List.set_cons_zero, List.set_cons_succ, List.length_cons, List.length_nil, Nat.reduceAdd, AV.sh, AV.sh1, AV.sh0, AO.sh, List.map_cons, List.map_nil, Nat.zero_add, Nat.add_zero, setAll]) | (apply w_move; exact rfl; exact rfl) | (apply w_assign; exact rfl; exact rfl) | apply AWp.seq | apply AWp.region | ((apply AWp.condP; exact rfl) <;> intro h) | apply AWp.ret | apply AWp.skip | (apply w_call (s1); exact rfl; exact rfl; focus ((repeat (first | exact im_nil | refine im_cons rfl (.val _) ?_ | refine im_cons rfl (.ints _) ?_)); done)) | (apply w_call (s2); exact rfl; exact rfl; focus ((repeat (first | exact im_nil | refine im_cons rfl (.val _) ?_ | refine im_cons rfl (.intss _) ?_)); done)) | omega | ((first | apply w_lss | apply w_ld | apply w_fa); iterate 3 exact rfl) | ((apply w_boxa); iterate 2 exact rfl) | (apply w_ldb; iterate 5 exact rfl))
      all_goals try (exfalso; omega)
      all_goals exact .int Try.results4 rfl rfl
    · rw [if_neg c2]
      (refine AFnV.start Try.func4 Try.ntmps4 rfl (by kernel_rfl) fun hk => ?_; simp only [Env.start, enumF, List.length_cons, List.length_nil, Nat.reduceAdd, Nat.reduceSub, List.cons_append, List.nil_append])
      repeat' (first | (apply AOps.nil; try simp only [List.nil_append, List.cons_append, List.set_cons_zero, List.set_cons_succ, List.length_cons, List.length_nil, Nat.reduceAdd, AV.sh, AV.sh1, AV.sh0, AO.sh, List.map_cons, List.map_nil, Nat.zero_add, Nat.add_zero, setAll]) | (apply w_move; exact rfl; exact rfl) | (apply w_assign; exact rfl; exact rfl) | apply AWp.seq | apply AWp.region | ((apply AWp.condP; exact rfl) <;> intro h) | apply AWp.ret | apply AWp.skip | (apply w_call (s1); exact rfl; exact rfl; focus ((repeat (first | exact im_nil | refine im_cons rfl (.val _) ?_ | refine im_cons rfl (.ints _) ?_)); done)) | (apply w_call (s2); exact rfl; exact rfl; focus ((repeat (first | exact im_nil | refine im_cons rfl (.val _) ?_ | refine im_cons rfl (.intss _) ?_)); done)) | omega | ((first | apply w_lss | apply w_ld | apply w_fa); iterate 3 exact rfl) | ((apply w_boxa); iterate 2 exact rfl) | (apply w_ldb; iterate 5 exact rfl))
      all_goals try (exfalso; omega)
      all_goals exact .int Try.results4 rfl rfl
theorem toGraph_c (W : List Int) (E : List (List Int)) (hw : W.length ≤ 1048576) (hb : E.length ≤ 1048576) (hr : ∀ xs ∈ E, xs.length ≤ 1048576) :
    AFn Try.prog 6 [.agg [.ints W, .intss E]] (fun r os => r = .agg [.own 0, .own 1] ∧ os = [.sli 2 W, .sls 22 2 E]) := by
  have t1 := toInt64S_c W hw
  have t2 := toInt64SS_c E hb hr
  (refine AFn.start Try.func6 Try.ntmps6 rfl (by kernel_rfl) fun hk => ?_; simp only [Env.start, enumF, List.length_cons, List.length_nil, Nat.reduceAdd, Nat.reduceSub, List.cons_append, List.nil_append])
  repeat' (first | (apply AOps.nil; try simp only [List.nil_append, List.cons_append, List.set_cons_zero, List.set_cons_succ, List.length_cons, List.length_nil, Nat.reduceAdd, AV.sh, AV.sh1, AV.sh0, AO.sh, List.map_cons, List.map_nil, Nat.zero_add, Nat.add_zero, setAll]) | apply AWp.seq | apply AWp.region | apply AWp.ret | (apply w_callm (t1); (focus ((repeat (first | exact im_nil | refine im_cons rfl (.ints _) ?_)); done)); rintro r os0 ⟨rfl, rfl⟩; try simp only [List.nil_append, List.cons_append, List.set_cons_zero, List.set_cons_succ, List.length_cons, List.length_nil, Nat.reduceAdd, AV.sh, AV.sh1, AV.sh0, AO.sh, List.map_cons, List.map_nil, Nat.zero_add, Nat.add_zero, setAll]) | (apply w_callm (t2); (focus ((repeat (first | exact im_nil | refine im_cons rfl (.intss _) ?_)); done)); rintro r os0 ⟨rfl, rfl⟩; try simp only [List.nil_append, List.cons_append, List.set_cons_zero, List.set_cons_succ, List.length_cons, List.length_nil, Nat.reduceAdd, AV.sh, AV.sh1, AV.sh0, AO.sh, List.map_cons, List.map_nil, Nat.zero_add, Nat.add_zero, setAll]) | ((first | apply w_ld | apply w_fa); iterate 3 exact rfl) | ((apply w_boxa); iterate 2 exact rfl) | (apply w_ldb; iterate 5 exact rfl) | (apply w_ldst; iterate 5 exact rfl) | (apply w_alst; iterate 2 exact rfl) | (apply w_stst; iterate 5 exact rfl) | (apply w_stbo; exact rfl; exact rfl; exact rfl; exact rfl; exact rfl; exact True.intro))
  exact ⟨_, _, _, .c1 Try.results6 rfl rfl rfl, .oo rfl rfl trivial trivial (by decide), rfl, rfl⟩
theorem eqGraph_t (W : List Int) (E : List (List Int)) : AFnV Try.prog 8 [.agg [.ints W, .intss E], .agg [.ints W, .intss E]] (.bool true) := by
  have e1 := eqInt64S_c W W
  have e2 := eqInt64SS_t E
  rw [decide_eq_true rfl] at e1
  (refine AFnV.start Try.func8 Try.ntmps8 rfl (by kernel_rfl) fun hk => ?_; simp only [Env.start, enumF, List.length_cons, List.length_nil, Nat.reduceAdd, Nat.reduceSub, List.cons_append, List.nil_append])
  repeat' (first | (apply AOps.nil; try simp only [List.nil_append, List.cons_append, List.set_cons_zero, List.set_cons_succ, List.length_cons, List.length_nil, Nat.reduceAdd, AV.sh, AV.sh1, AV.sh0, AO.sh, List.map_cons, List.map_nil, Nat.zero_add, Nat.add_zero, setAll]) | (apply w_assign; exact rfl; exact rfl) | apply AWp.seq | apply AWp.region | (apply AWp.condF; exact rfl) | apply AWp.ret | apply AWp.skip | (apply w_call (e1); exact rfl; exact rfl; focus ((repeat (first | exact im_nil | refine im_cons rfl (.ints _) ?_)); done)) | (apply w_call (e2); exact rfl; exact rfl; focus ((repeat (first | exact im_nil | refine im_cons rfl (.intss _) ?_)); done)) | ((first | apply w_ld | apply w_fa); iterate 3 exact rfl) | ((first | apply w_not | apply w_boxa); iterate 2 exact rfl) | (apply w_ldb; iterate 5 exact rfl))
  all_goals exact .bool Try.results8 rfl rfl
end Go.Proofs.Ytlkhcelodcneiaa
/-
  What a graph within the sizes is. No condition.
-/
namespace Go.Proofs.Ytlkhcelodcneiaa
open Go Go.RowKit
theorem szGr_ok {W : List Int} {E : List (List Int)} (h : ¬ szGr W E 1048576 < 0) : W.length ≤ 1048576 ∧ E.length ≤ 1048576 ∧ ∀ xs ∈ E, xs.length ≤ 1048576 := by
  unfold szGr at h
  by_cases c1 : szI W 1048576 < 0
  · rw [if_pos c1] at h; omega
  · rw [if_neg c1] at h
    by_cases c2 : szSS E (szI W 1048576) < 0
    · rw [if_pos c2] at h; omega
    · have hs : szI W 1048576 = 1048576 - W.length := by unfold szI at c1 ⊢; split at c1 <;> simp_all <;> omega
      obtain ⟨h1, h2⟩ := szSS_ok (xss := E) (left := szI W 1048576) (by omega) (by omega)
      exact ⟨by omega, by omega, fun xs hx => by have := h2 xs hx; omega⟩
end Go.Proofs.Ytlkhcelodcneiaa
/-
  The law of splice weights. Condition: numbers of 64 bits.
-/
namespace Go.Proofs.Ytlkhcelodcneiaa
open Go Go.RowKit
attribute [local irreducible] AWp AOps ResIs Ret1 QOp LOp COp AFnV AFn Imms LeE LeO
set_option maxHeartbeats 1000000
set_option linter.unusedSimpArgs false
set_option linter.unusedVariables false

set_option maxHeartbeats 16000000 in
theorem lawSw_c (W : List Int) (E : List (List Int)) (v w : Int) (iv : inI v) (iw : inI w) : AFnV Try.prog 3 [.agg [.ints W, .intss E], .i v, .i w] (.bool true) := by
  have hsz := szGraph_c W E
  have hs := specSW_c W E v w iv iw
  have hi := implSW_c W E v w iv iw
  generalize (swV W E v w).1 = b at *
  generalize (swV W E v w).2 = c at *
  have heq := eqGraph_t W E
  by_cases hz : szGr W E 1048576 < 0
  · (refine AFnV.start Try.func3 Try.ntmps3 rfl (by kernel_rfl) fun hk => ?_; simp only [Env.start, enumF, List.length_cons, List.length_nil, Nat.reduceAdd, Nat.reduceSub, List.cons_append, List.nil_append])
    repeat' (first | (apply AOps.nil; try simp only [List.nil_append, List.cons_append, List.set_cons_zero, List.set_cons_succ, List.length_cons, List.length_nil, Nat.reduceAdd, AV.sh, AV.sh1, AV.sh0, AO.sh, List.map_cons, List.map_nil, Nat.zero_add, Nat.add_zero, setAll]) | (apply w_move; exact rfl; exact rfl) | (apply w_assign; exact rfl; exact rfl) | apply AWp.seq | apply AWp.region | ((apply AWp.condP; exact rfl) <;> intro h) | apply AWp.ret | apply AWp.skip | (apply w_call (hsz); exact rfl; exact rfl; focus ((repeat (first | exact im_nil | refine im_cons rfl (im_agg2 (.ints _) (.intss _)) ?_ | refine im_cons rfl (.val _) ?_)); done)) | omega | ((apply w_lss); iterate 3 exact rfl) | ((apply w_boxa); iterate 2 exact rfl) | (apply w_ldst; iterate 5 exact rfl))
    all_goals try (exfalso; omega)
    all_goals exact .bool Try.results3 rfl rfl
  · obtain ⟨b1, b2, b3⟩ := szGr_ok hz
    have tg := toGraph_c W E b1 b2 b3
    (refine AFnV.start Try.func3 Try.ntmps3 rfl (by kernel_rfl) fun hk => ?_; simp only [Env.start, enumF, List.length_cons, List.length_nil, Nat.reduceAdd, Nat.reduceSub, List.cons_append, List.nil_append])
    repeat' (first | (apply AOps.nil; try simp only [List.nil_append, List.cons_append, List.set_cons_zero, List.set_cons_succ, List.length_cons, List.length_nil, Nat.reduceAdd, AV.sh, AV.sh1, AV.sh0, AO.sh, List.map_cons, List.map_nil, Nat.zero_add, Nat.add_zero, setAll]) | ((apply AOps.splitP; exact rfl; exact rfl) <;> intro h) | (apply w_move; exact rfl; exact rfl) | (apply w_assign; exact rfl; exact rfl) | apply AWp.seq | apply AWp.region | ((apply AWp.condP; exact rfl) <;> intro h) | (apply AWp.condT; exact rfl) | apply AWp.ret | apply AWp.skip | (apply w_skip; exact rfl) | (apply w_pickT; exact rfl; exact rfl; exact rfl) | (apply w_pickF; exact rfl; exact rfl; exact rfl) | (apply w_call (hsz); exact rfl; exact rfl; focus ((repeat (first | exact im_nil | refine im_cons rfl (im_agg2 (.ints _) (.intss _)) ?_ | refine im_cons rfl (.val _) ?_)); done)) | (apply w_callm (tg); (focus ((repeat (first | exact im_nil | refine im_cons rfl (im_agg2 (.ints _) (.intss _)) ?_)); done)); rintro r os0 ⟨rfl, rfl⟩; try simp only [List.nil_append, List.cons_append, List.set_cons_zero, List.set_cons_succ, List.length_cons, List.length_nil, Nat.reduceAdd, AV.sh, AV.sh1, AV.sh0, AO.sh, List.map_cons, List.map_nil, Nat.zero_add, Nat.add_zero, setAll]) | (apply w_call (hs); exact rfl; exact rfl; focus ((repeat (first | exact im_nil | refine im_cons rfl (im_agg2 (.sli rfl) (.sls rfl)) ?_ | refine im_cons rfl (.val _) ?_)); done)) | (apply w_call (hi); exact rfl; exact rfl; focus ((repeat (first | exact im_nil | refine im_cons rfl (im_agg2 (.sli rfl) (.sls rfl)) ?_ | refine im_cons rfl (.val _) ?_)); done)) | omega | ((first | apply w_lss | apply w_neq | apply w_extv); iterate 3 exact rfl) | ((apply w_boxa); iterate 2 exact rfl) | (apply w_ldst; iterate 5 exact rfl) | (apply w_alst; iterate 2 exact rfl) | (apply w_stst; iterate 5 exact rfl))
    all_goals try (exfalso; first | exact absurd rfl (by assumption : b ≠ b) | exact absurd rfl (by assumption : c ≠ c))
    refine AWp.regionG [] (by kernel_rfl) (envC := ⟨48, [(47, .b false)]⟩) (osC := [.bx 25 [.ints W, .intss E]]) rfl rfl ?_ ?_
    · repeat' (first | (apply AOps.nil; try simp only [List.nil_append, List.cons_append, List.set_cons_zero, List.set_cons_succ, List.length_cons, List.length_nil, Nat.reduceAdd, AV.sh, AV.sh1, AV.sh0, AO.sh, List.map_cons, List.map_nil, Nat.zero_add, Nat.add_zero, setAll]) | apply AllOfG.nil | (apply AllOfG.consQ; exact rfl; exact rfl) | (apply AllOfG.consS; exact rfl; exact rfl) | (apply AAnyG.takeW; exact rfl; exact rfl; kernel_rfl; kernel_rfl) | (apply AAnyG.takeL; exact rfl; exact rfl; kernel_rfl) | (apply AAnyG.all; exact rfl) | (apply AAnyG.done; exact rfl) | (apply w_callm (tg); (focus ((repeat (first | exact im_nil | refine im_cons rfl (im_agg2 (.ints _) (.intss _)) ?_)); done)); rintro r os0 ⟨rfl, rfl⟩; try simp only [List.nil_append, List.cons_append, List.set_cons_zero, List.set_cons_succ, List.length_cons, List.length_nil, Nat.reduceAdd, AV.sh, AV.sh1, AV.sh0, AO.sh, List.map_cons, List.map_nil, Nat.zero_add, Nat.add_zero, setAll]) | (apply w_call (heq); exact rfl; exact rfl; focus ((repeat (first | exact im_nil | refine im_cons rfl (im_agg2 (.sli rfl) (.sls rfl)) ?_)); done)) | ((apply w_not); iterate 2 exact rfl) | (apply w_ldst; iterate 5 exact rfl))
      all_goals (apply Or.inl; refine ⟨lee rfl ?_, ?_, rfl, rfl⟩; (focus ((repeat (first | exact le_nil | refine le_eq rfl rfl ?_)); done)); (focus ((repeat (first | exact lo_nil | refine lo_eq rfl ?_)); done)))
    repeat' (first | (apply AOps.nil; try simp only [List.nil_append, List.cons_append, List.set_cons_zero, List.set_cons_succ, List.length_cons, List.length_nil, Nat.reduceAdd, AV.sh, AV.sh1, AV.sh0, AO.sh, List.map_cons, List.map_nil, Nat.zero_add, Nat.add_zero, setAll]) | (apply w_assign; exact rfl; exact rfl) | apply AWp.seq | apply AWp.region | (apply AWp.condF; exact rfl) | apply AWp.ret | apply AWp.skip)
    exact .bool Try.results3 rfl rfl
end Go.Proofs.Ytlkhcelodcneiaa
