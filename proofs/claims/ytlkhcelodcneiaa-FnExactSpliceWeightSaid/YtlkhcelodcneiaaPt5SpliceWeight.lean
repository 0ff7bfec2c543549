/-
  Parts of the proof, one behind the other: contracts of functions and plain laws. No condition.
-/
import Derived.Test.YtlkhcelodcneiaaPt4SpliceWeight
/-
  Labels of components, walked. Condition: edges of at most 40 vertices.
-/
namespace Go.Proofs.Ytlkhcelodcneiaa
open Go Go.RowKit
attribute [local irreducible] AWp AOps ResIs Ret1 QOp LOp COp AFnV AFn Imms LeE LeO
set_option maxHeartbeats 1000000
set_option linter.unusedSimpArgs false
set_option linter.unusedVariables false

/-- A merge that is under way. -/
def mgT (L : List Int) (a b : Int) (i : Nat) : List Int := mgL (L.take i) a b ++ L.drop i
theorem mgT_len (L : List Int) (a b : Int) (i : Nat) : (mgT L a b i).length = L.length := by
  unfold mgT; rw [List.length_append, mgL_len, List.length_take, List.length_drop]; omega
theorem mgT_at {L : List Int} {a b : Int} {i : Nat} (h : i < L.length) : geti (mgT L a b i) (i : Nat) = geti L (i : Nat) := by
  unfold mgT geti
  rw [List.getD_eq_getElem?_getD, List.getD_eq_getElem?_getD, List.getElem?_append_right (by rw [mgL_len, List.length_take]; omega), mgL_len, List.length_take, List.getElem?_drop]
  congr 2; omega
theorem mgT_eq {L : List Int} {a b : Int} {i : Nat} (h : i < L.length) : mgT L a b (i + 1) = (mgT L a b i).set i (if geti L (i : Nat) = b then a else geti L (i : Nat)) := by
  have e1 : L.take (i + 1) = L.take i ++ [geti L (i : Nat)] := take_geti h
  have e2 : L.drop i = geti L (i : Nat) :: L.drop (i + 1) := by rw [List.drop_eq_getElem_cons h]; simp [geti, List.getD_eq_getElem?_getD, List.getElem?_eq_getElem h]
  have e3 : (mgL (L.take i) a b).length = i := by rw [mgL_len, List.length_take]; omega
  unfold mgT
  rw [e1, e2]
  unfold mgL
  rw [List.map_append, List.append_assoc, List.set_append_right _ _ (by rw [List.length_map, List.length_take]; omega)]
  congr 1
  rw [List.length_map, List.length_take, show i - min i L.length = 0 by omega]
  rfl
theorem mgT_all (L : List Int) (a b : Int) : mgT L a b L.length = mgL L a b := by unfold mgT; rw [List.take_length, List.drop_length, List.append_nil]
theorem set_same {L : List Int} {i : Nat} : L.set i (geti L (i : Nat)) = L := by
  apply List.ext_getElem?
  intro k
  rw [List.getElem?_set]
  split
  · rename_i h; subst h
    split
    · rename_i h; simp [geti, List.getD_eq_getElem?_getD, List.getElem?_eq_getElem h]
    · rename_i h; rw [List.getElem?_eq_none (by omega)]
  · rfl
def idT (n i : Nat) : List Int := (List.range n).map fun (j : Nat) => if j < i then (j : Int) else 0
theorem idT_len (n i : Nat) : (idT n i).length = n := by simp [idT]
theorem idT_step (n i : Nat) : (idT n i).set i (i : Nat) = idT n (i + 1) := by
  apply List.ext_getElem?
  intro k
  rw [List.getElem?_set, idT_len]
  simp only [idT, List.getElem?_map]
  by_cases hk : k < n
  · rw [List.getElem?_range hk]
    by_cases e : i = k
    · subst e
      simp [hk]
    · simp only [e, if_false, Option.map_some]
      congr 1
      by_cases h1 : k < i
      · rw [if_pos h1, if_pos (by omega)]
      · rw [if_neg h1, if_neg (by omega)]
  · rw [List.getElem?_eq_none (by simpa using hk)]
    split
    · rw [if_neg (by omega)]; rfl
    · rfl
theorem idT_0 (n : Nat) : idT n 0 = List.replicate n 0 := by
  apply List.ext_getElem (by simp [idT])
  intro i h1 h2
  simp [idT]
theorem idT_n (n : Nat) : idT n n = idL n := by
  unfold idT idL
  apply List.map_congr_left
  intro x hx
  rw [if_pos (List.mem_range.1 hx)]

set_option maxHeartbeats 16000000 in
theorem labels_c (n : Nat) (E : List (List Int)) (hn : n ≤ 40) (hl : E.length ≤ 40) (hE : ∀ e ∈ E, EIn n e) : AFn Try.prog 46 [.i n, .intss E] (IsInts 2 (labF n E)) := by
  have hri : ∀ k, k ≤ E.length → RI n (lbR (idL n) (E.take k)) := fun k hk => (rc_run (RI.id n) (M := idL n) (fun _ _ _ _ _ _ => Iff.rfl) (idL_len n) (E := E.take k) fun e he => hE e (List.mem_of_mem_take he)).1
  (refine AFn.start Try.func46 Try.ntmps46 rfl (by kernel_rfl) fun hk => ?_; simp only [Env.start, enumF, List.length_cons, List.length_nil, Nat.reduceAdd, Nat.reduceSub, List.cons_append, List.nil_append])
  repeat' (first | (apply AOps.nil; try simp only [List.nil_append, List.cons_append, List.set_cons_zero, List.set_cons_succ, List.length_cons, List.length_nil, Nat.reduceAdd, AV.sh, AV.sh1, AV.sh0, AO.sh, List.map_cons, List.map_nil, Nat.zero_add, Nat.add_zero, setAll]) | (apply w_move; exact rfl; exact rfl) | (apply w_assign; exact rfl; exact rfl) | apply AWp.seq | apply AWp.region | apply AWp.block | (apply w_len; exact rfl; exact rfl; first | exact .ints _ | exact .intss _ | exact .sli rfl | exact .sls rfl | exact .slr rfl | exact .orow rfl | exact .nil) | omega | (apply w_mki; exact rfl; exact rfl; rotate_left 3; exact rfl; rotate_left 1))
  rw [Int.toNat_natCast, ← idT_0, idT_len]
  refine AWp.loop (ι := Nat) (fun i => ⟨104, [(1, .intss E), (5, .own 0), (17, .i n), (18, .i i)]⟩) (fun i => [.sli 2 (idT n i)]) (fun i => i ≤ n) (fun i => n - i) 0 (by omega) ⟨lee rfl (by (repeat (first | exact le_nil | refine le_eq rfl rfl ?_))), by (repeat (first | exact lo_nil | refine lo_eq rfl ?_)), rfl, rfl⟩ ?_
  intro i i0
  have il := idT_len n i
  have is := idT_step n i
  by_cases hi : i < n
  · generalize idT n i = L at *
    repeat' (first | (apply AOps.nil; try simp only [List.nil_append, List.cons_append, List.set_cons_zero, List.set_cons_succ, List.length_cons, List.length_nil, Nat.reduceAdd, AV.sh, AV.sh1, AV.sh0, AO.sh, List.map_cons, List.map_nil, Nat.zero_add, Nat.add_zero, setAll]) | (apply w_move; exact rfl; exact rfl) | (apply w_assign; exact rfl; exact rfl) | apply AWp.seq | apply AWp.region | ((apply AWp.condP; exact rfl) <;> intro h) | apply AWp.block | apply AWp.exit | apply AWp.skip | (apply w_len; exact rfl; exact rfl; first | exact .ints _ | exact .intss _ | exact .sli rfl | exact .sls rfl | exact .slr rfl | exact .orow rfl | exact .nil) | omega | ((first | apply w_lss | apply w_add | apply w_idx); iterate 3 exact rfl) | (apply w_idxo; exact rfl; exact rfl; (exact .sli rfl); exact rfl) | (apply w_sti; exact rfl; exact rfl; rotate_left 1; exact rfl; rotate_left 2) | (apply inI_of <;> omega))
    exact ⟨i + 1, by omega, by omega, by rw [← is]; exact ⟨lee rfl (by (repeat (first | exact le_nil | refine le_eq rfl rfl ?_))), by (repeat (first | exact lo_nil | refine lo_eq rfl ?_)), rfl, rfl⟩⟩
  have ei : i = n := by omega
  subst ei
  rw [idT_n] at il ⊢
  repeat' (first | (apply AOps.nil; try simp only [List.nil_append, List.cons_append, List.set_cons_zero, List.set_cons_succ, List.length_cons, List.length_nil, Nat.reduceAdd, AV.sh, AV.sh1, AV.sh0, AO.sh, List.map_cons, List.map_nil, Nat.zero_add, Nat.add_zero, setAll]) | (apply w_move; exact rfl; exact rfl) | (apply w_assign; exact rfl; exact rfl) | apply AWp.seq | apply AWp.region | ((apply AWp.condP; exact rfl) <;> intro h) | apply AWp.block | apply AWp.exit | apply AWp.skip | (apply w_len; exact rfl; exact rfl; first | exact .ints _ | exact .intss _ | exact .sli rfl | exact .sls rfl | exact .slr rfl | exact .orow rfl | exact .nil) | omega | ((apply w_lss); iterate 3 exact rfl))
  refine AWp.loop (ι := Nat) (fun k => ⟨104, [(5, .own 0), (26, .intss E), (27, .i E.length), (28, .i k)]⟩) (fun k => [.sli 2 (lbR (idL i) (E.take k))]) (fun k => k ≤ E.length) (fun k => E.length - k) 0 (by omega) ⟨lee rfl (by (repeat (first | exact le_nil | refine le_eq rfl rfl ?_))), by (repeat (first | exact lo_nil | refine lo_eq rfl ?_)), rfl, rfl⟩ ?_
  intro k k0
  have hr := hri k k0
  have rl := hr.len
  by_cases hk : k < E.length
  · obtain ⟨a1, a2, a3, a4⟩ := hE (gets E (k : Nat)) (gets_mem (by omega) (by omega))
    have et : lbR (idL i) (E.take (k + 1)) = mmL (lbR (idL i) (E.take k)) (gets E (k : Nat)) := by
      rw [List.take_succ_eq_append_getElem hk, lbR_app]; simp [gets, hk, lbR]
    have hx1 : ∀ x : Int, 0 ≤ x → x < i → 0 ≤ geti (lbR (idL i) (E.take k)) x := hr.lo
    rw [show mmL (lbR (idL i) (E.take k)) (gets E (k : Nat)) = mgL (lbR (idL i) (E.take k)) (min (geti (lbR (idL i) (E.take k)) (geti (gets E (k : Nat)) 0)) (geti (lbR (idL i) (E.take k)) (geti (gets E (k : Nat)) 1))) (max (geti (lbR (idL i) (E.take k)) (geti (gets E (k : Nat)) 0)) (geti (lbR (idL i) (E.take k)) (geti (gets E (k : Nat)) 1))) from rfl] at et
    generalize lbR (idL i) (E.take k) = L at *
    repeat' (first | (apply AOps.nil; try simp only [List.nil_append, List.cons_append, List.set_cons_zero, List.set_cons_succ, List.length_cons, List.length_nil, Nat.reduceAdd, AV.sh, AV.sh1, AV.sh0, AO.sh, List.map_cons, List.map_nil, Nat.zero_add, Nat.add_zero, setAll]) | (apply w_move; exact rfl; exact rfl) | (apply w_assign; exact rfl; exact rfl) | apply AWp.seq | apply AWp.region | ((apply AWp.condP; exact rfl) <;> intro h) | apply AWp.block | apply AWp.exit | apply AWp.skip | (apply w_len; exact rfl; exact rfl; first | exact .ints _ | exact .intss _ | exact .sli rfl | exact .sls rfl | exact .slr rfl | exact .orow rfl | exact .nil) | omega | ((first | apply w_lss | apply w_idx | apply w_ld); iterate 3 exact rfl) | ((first | apply w_idxs | apply w_lds); iterate 3 exact rfl))
    generalize gets E (k : Nat) = e at *
    obtain ⟨a, ea⟩ : ∃ a, a = min (geti L (geti e 0)) (geti L (geti e 1)) := ⟨_, rfl⟩
    obtain ⟨b, eb⟩ : ∃ b, b = max (geti L (geti e 0)) (geti L (geti e 1)) := ⟨_, rfl⟩
    have y1 := hr.lo _ a2 (by omega)
    have y2 := hr.hi _ a2 (by omega)
    have y3 := hr.lo (geti e 1) (by omega) a4
    have y4 := hr.hi (geti e 1) (by omega) a4
    have am : 0 ≤ a ∧ a < i := by omega
    refine AWp.regionG [] (by kernel_rfl) (envC := ⟨104, [(5, .own 0), (9, .i a), (10, .i b), (26, .intss E), (27, .i E.length), (28, .i k)]⟩) (osC := [.sli 2 L]) rfl rfl ?_ ?_
    · rw [ea, eb]
      repeat' (first | (apply AOps.nil; try simp only [List.nil_append, List.cons_append, List.set_cons_zero, List.set_cons_succ, List.length_cons, List.length_nil, Nat.reduceAdd, AV.sh, AV.sh1, AV.sh0, AO.sh, List.map_cons, List.map_nil, Nat.zero_add, Nat.add_zero, setAll]) | (apply w_move; exact rfl; exact rfl) | (apply w_assign; exact rfl; exact rfl) | (apply AAnyG.takeW; exact rfl; exact rfl; kernel_rfl; kernel_rfl) | (apply AAnyG.takeL; exact rfl; exact rfl; kernel_rfl) | (apply AAnyG.done; exact rfl) | omega | ((first | apply w_idx | apply w_ld | apply w_min | apply w_max); iterate 3 exact rfl) | (apply w_idxo; exact rfl; exact rfl; (exact .sli rfl); exact rfl) | (apply w_ldo; iterate 4 exact rfl))
      all_goals (apply Or.inl; refine ⟨lee rfl ?_, ?_, rfl, rfl⟩; (focus ((repeat (first | exact le_nil | refine le_eq rfl rfl ?_)); done)); (focus ((repeat (first | exact lo_nil | refine lo_eq rfl ?_)); done)))
    rw [← ea, ← eb] at et
    clear ea eb
    repeat' (first | (apply AOps.nil; try simp only [List.nil_append, List.cons_append, List.set_cons_zero, List.set_cons_succ, List.length_cons, List.length_nil, Nat.reduceAdd, AV.sh, AV.sh1, AV.sh0, AO.sh, List.map_cons, List.map_nil, Nat.zero_add, Nat.add_zero, setAll]) | (apply w_move; exact rfl; exact rfl) | apply AWp.seq | apply AWp.region | apply AWp.block | (apply w_len; exact rfl; exact rfl; first | exact .ints _ | exact .intss _ | exact .sli rfl | exact .sls rfl | exact .slr rfl | exact .orow rfl | exact .nil))
    rw [rl]
    refine AWp.loop (ι := Nat) (fun j => ⟨104, [(5, .own 0), (9, .i a), (10, .i b), (26, .intss E), (27, .i E.length), (28, .i k), (59, .i i), (60, .i j)]⟩) (fun j => [.sli 2 (mgT L a b j)]) (fun j => j ≤ i) (fun j => i - j) 0 (by omega) ⟨lee rfl (by (repeat (first | exact le_nil | refine le_eq rfl rfl ?_))), by (repeat (first | exact lo_nil | refine lo_eq rfl ?_)), rfl, rfl⟩ ?_
    intro j j0
    have ml := mgT_len L a b j
    by_cases hj : j < i
    · have m1 := mgT_at (L := L) (a := a) (b := b) (i := j) (by omega)
      have m2 := mgT_eq (L := L) (a := a) (b := b) (i := j) (by omega)
      rw [← m1] at m2
      generalize mgT L a b j = M at *
      have ej : geti M ((((j : Nat) : Int)).toNat : Nat) = geti M (j : Nat) := by rw [Int.toNat_natCast]
      by_cases hc : geti M (j : Nat) = b
      · rw [if_pos hc] at m2
        repeat' (first | (apply AOps.nil; try simp only [List.nil_append, List.cons_append, List.set_cons_zero, List.set_cons_succ, List.length_cons, List.length_nil, Nat.reduceAdd, AV.sh, AV.sh1, AV.sh0, AO.sh, List.map_cons, List.map_nil, Nat.zero_add, Nat.add_zero, setAll]) | (apply w_move; exact rfl; exact rfl) | (apply w_assign; exact rfl; exact rfl) | apply AWp.seq | apply AWp.region | ((apply AWp.condP; exact rfl) <;> intro h) | apply AWp.block | apply AWp.exit | apply AWp.skip | omega | ((first | apply w_lss | apply w_eql | apply w_add | apply w_idx | apply w_ld); iterate 3 exact rfl) | (apply w_idxo; exact rfl; exact rfl; (exact .sli rfl); exact rfl) | (apply w_ldo; iterate 4 exact rfl) | (apply w_sti; exact rfl; exact rfl; rotate_left 1; exact rfl; rotate_left 2) | (apply inI_of <;> omega))
        exact ⟨j + 1, by omega, by omega, by rw [m2]; exact ⟨lee rfl (by (repeat (first | exact le_nil | refine le_eq rfl rfl ?_))), by (repeat (first | exact lo_nil | refine lo_eq rfl ?_)), rfl, rfl⟩⟩
      · rw [if_neg hc, set_same] at m2
        repeat' (first | (apply AOps.nil; try simp only [List.nil_append, List.cons_append, List.set_cons_zero, List.set_cons_succ, List.length_cons, List.length_nil, Nat.reduceAdd, AV.sh, AV.sh1, AV.sh0, AO.sh, List.map_cons, List.map_nil, Nat.zero_add, Nat.add_zero, setAll]) | (apply w_move; exact rfl; exact rfl) | (apply w_assign; exact rfl; exact rfl) | apply AWp.seq | apply AWp.region | ((apply AWp.condP; exact rfl) <;> intro h) | apply AWp.block | apply AWp.exit | apply AWp.skip | omega | ((first | apply w_lss | apply w_eql | apply w_add | apply w_idx | apply w_ld); iterate 3 exact rfl) | (apply w_idxo; exact rfl; exact rfl; (exact .sli rfl); exact rfl) | (apply w_ldo; iterate 4 exact rfl) | (apply inI_of <;> omega))
        exact ⟨j + 1, by omega, by omega, by rw [m2]; exact ⟨lee rfl (by (repeat (first | exact le_nil | refine le_eq rfl rfl ?_))), by (repeat (first | exact lo_nil | refine lo_eq rfl ?_)), rfl, rfl⟩⟩
    · have ej : j = L.length := by omega
      rw [ej, mgT_all, ← et]
      repeat' (first | (apply AOps.nil; try simp only [List.nil_append, List.cons_append, List.set_cons_zero, List.set_cons_succ, List.length_cons, List.length_nil, Nat.reduceAdd, AV.sh, AV.sh1, AV.sh0, AO.sh, List.map_cons, List.map_nil, Nat.zero_add, Nat.add_zero, setAll]) | (apply w_move; exact rfl; exact rfl) | (apply w_assign; exact rfl; exact rfl) | apply AWp.seq | apply AWp.region | ((apply AWp.condP; exact rfl) <;> intro h) | apply AWp.block | apply AWp.exit | apply AWp.skip | omega | ((first | apply w_lss | apply w_add); iterate 3 exact rfl) | (apply inI_of <;> omega))
      exact ⟨k + 1, by omega, by omega, ⟨lee rfl (by (repeat (first | exact le_nil | refine le_eq rfl rfl ?_))), by (repeat (first | exact lo_nil | refine lo_eq rfl ?_)), rfl, rfl⟩⟩
  · have ek : k = E.length := by omega
    subst ek
    rw [List.take_length]
    rw [List.take_length] at hr rl
    have hnm := nm_run hr
    have hlab : labF i E = (nmF (lbR (idL i) E) i).1 := rfl
    have hrc : ∀ m, rcL (lbR (idL i) E) m ≤ m := fun m => by
      unfold rcL
      exact Nat.le_trans (List.length_filter_le _ _) (by simp)
    repeat' (first | (apply AOps.nil; try simp only [List.nil_append, List.cons_append, List.set_cons_zero, List.set_cons_succ, List.length_cons, List.length_nil, Nat.reduceAdd, AV.sh, AV.sh1, AV.sh0, AO.sh, List.map_cons, List.map_nil, Nat.zero_add, Nat.add_zero, setAll]) | (apply w_move; exact rfl; exact rfl) | (apply w_assign; exact rfl; exact rfl) | apply AWp.seq | apply AWp.region | ((apply AWp.condP; exact rfl) <;> intro h) | apply AWp.block | apply AWp.exit | apply AWp.skip | (apply w_len; exact rfl; exact rfl; first | exact .ints _ | exact .intss _ | exact .sli rfl | exact .sls rfl | exact .slr rfl | exact .orow rfl | exact .nil) | omega | ((apply w_lss); iterate 3 exact rfl))
    rw [rl]
    generalize lbR (idL i) E = L at *
    refine AWp.loop (ι := Nat) (fun j => ⟨104, [(5, .own 0), (12, .i (nmF L j).2), (76, .i i), (77, .i j)]⟩) (fun j => [.sli 2 (nmF L j).1]) (fun j => j ≤ i) (fun j => i - j) 0 (by omega) ⟨lee rfl (by (repeat (first | exact le_nil | refine le_eq rfl rfl ?_))), by (repeat (first | exact lo_nil | refine lo_eq rfl ?_)), rfl, rfl⟩ ?_
    intro j j0
    have hm := hnm j j0
    have m1 := hm.len
    have m2 := hm.num
    have m3 := hrc j
    by_cases hj : j < i
    · have m4 := hm.old (j : Nat) (Int.le_refl _)
      have m5 := hr.lo (j : Nat) (by omega) (by omega)
      have m6 := hr.hi (j : Nat) (by omega) (by omega)
      have es : nmF L (j + 1) = if geti (nmF L j).1 (j : Nat) = (j : Nat) then ((nmF L j).1.set j (nmF L j).2, (nmF L j).2 + 1) else ((nmF L j).1.set j (geti (nmF L j).1 (geti (nmF L j).1 (j : Nat))), (nmF L j).2) := rfl
      rw [← m4] at m5 m6
      generalize nmF L j = s at *
      obtain ⟨M, q⟩ := s
      simp only at m1 m2 m5 m6 es
      have ej : geti M ((((j : Nat) : Int)).toNat : Nat) = geti M (j : Nat) := by rw [Int.toNat_natCast]
      by_cases hc : geti M (j : Nat) = (j : Nat)
      · rw [if_pos hc] at es
        repeat' (first | (apply AOps.nil; try simp only [List.nil_append, List.cons_append, List.set_cons_zero, List.set_cons_succ, List.length_cons, List.length_nil, Nat.reduceAdd, AV.sh, AV.sh1, AV.sh0, AO.sh, List.map_cons, List.map_nil, Nat.zero_add, Nat.add_zero, setAll]) | (apply w_move; exact rfl; exact rfl) | (apply w_assign; exact rfl; exact rfl) | apply AWp.seq | apply AWp.region | ((apply AWp.condP; exact rfl) <;> intro h) | apply AWp.block | apply AWp.ret | apply AWp.exit | apply AWp.skip | omega | ((first | apply w_lss | apply w_eql | apply w_add | apply w_idx | apply w_ld); iterate 3 exact rfl) | (apply w_idxo; exact rfl; exact rfl; (exact .sli rfl); exact rfl) | (apply w_ldo; iterate 4 exact rfl) | (apply w_sti; exact rfl; exact rfl; rotate_left 1; exact rfl; rotate_left 2) | (apply inI_of <;> omega))
        exact ⟨j + 1, by omega, by omega, by rw [es]; exact ⟨lee rfl (by (repeat (first | exact le_nil | refine le_eq rfl rfl ?_))), by (repeat (first | exact lo_nil | refine lo_eq rfl ?_)), rfl, rfl⟩⟩
      · have n1 : 0 ≤ geti M (geti M (j : Nat)) := hm.lo (geti M (j : Nat)) m5 (by omega)
        have n2 : geti M (geti M (j : Nat)) < q := hm.hi (geti M (j : Nat)) m5 (by omega)
        have e9 : geti M ((geti M (((j : Nat) : Int).toNat : Nat)).toNat : Nat) = geti M (geti M (j : Nat)) := by rw [Int.toNat_natCast, Int.toNat_of_nonneg m5]
        rw [← e9] at n1 n2
        rw [if_neg hc, ← e9] at es
        repeat' (first | (apply AOps.nil; try simp only [List.nil_append, List.cons_append, List.set_cons_zero, List.set_cons_succ, List.length_cons, List.length_nil, Nat.reduceAdd, AV.sh, AV.sh1, AV.sh0, AO.sh, List.map_cons, List.map_nil, Nat.zero_add, Nat.add_zero, setAll]) | (apply w_move; exact rfl; exact rfl) | (apply w_assign; exact rfl; exact rfl) | apply AWp.seq | apply AWp.region | ((apply AWp.condP; exact rfl) <;> intro h) | apply AWp.block | apply AWp.ret | apply AWp.exit | apply AWp.skip | omega | ((first | apply w_lss | apply w_eql | apply w_add | apply w_idx | apply w_ld); iterate 3 exact rfl) | (apply w_idxo; exact rfl; exact rfl; (exact .sli rfl); exact rfl) | (apply w_ldo; iterate 4 exact rfl) | (apply w_sti; exact rfl; exact rfl; rotate_left 1; exact rfl; rotate_left 2) | (apply inI_of <;> omega))
        exact ⟨j + 1, by omega, by omega, by rw [es]; exact ⟨lee rfl (by (repeat (first | exact le_nil | refine le_eq rfl rfl ?_))), by (repeat (first | exact lo_nil | refine lo_eq rfl ?_)), rfl, rfl⟩⟩
    · have ej : j = i := by omega
      subst ej
      rw [← hlab] at m1 ⊢
      generalize labF j E = M at *
      repeat' (first | (apply AOps.nil; try simp only [List.nil_append, List.cons_append, List.set_cons_zero, List.set_cons_succ, List.length_cons, List.length_nil, Nat.reduceAdd, AV.sh, AV.sh1, AV.sh0, AO.sh, List.map_cons, List.map_nil, Nat.zero_add, Nat.add_zero, setAll]) | (apply w_move; exact rfl; exact rfl) | (apply w_assign; exact rfl; exact rfl) | apply AWp.seq | apply AWp.region | ((apply AWp.condP; exact rfl) <;> intro h) | apply AWp.block | apply AWp.ret | apply AWp.exit | apply AWp.skip | omega | ((apply w_lss); iterate 3 exact rfl))
      exact ⟨_, _, _, .v1 Try.results46 rfl, .sli rfl, rfl, rfl⟩
end Go.Proofs.Ytlkhcelodcneiaa
/-
  Whether a graph is one, walked: the program. No condition on the graph.
-/
namespace Go.Proofs.Ytlkhcelodcneiaa
open Go Go.RowKit
attribute [local irreducible] AWp AOps ResIs Ret1 QOp LOp COp AFnV AFn Imms LeE LeO
set_option maxHeartbeats 1000000
set_option linter.unusedSimpArgs false
set_option linter.unusedVariables false

/-- A graph of the program. -/
structure GOk (W : List Int) (E : List (List Int)) : Prop where
  n : 1 ≤ W.length ∧ W.length ≤ 40
  w : withinL W (-1000) 1000 = true
  row : ∀ e ∈ E, EIn W.length e
  srt : E.Pairwise lx
  eff : effL (idL W.length) E
theorem within_geti {W : List Int} (h : withinL W (-1000) 1000 = true) (v : Int) : -1000 ≤ geti W v ∧ geti W v ≤ 1000 := by
  unfold withinL at h
  simp only [geti, List.getD_eq_getElem?_getD]
  cases hx : W[v.toNat]? with
  | none => simp
  | some x =>
    have := List.all_eq_true.1 h x (List.mem_of_getElem? hx)
    simpa using this
theorem GOk.len {W : List Int} {E : List (List Int)} (h : GOk W E) : E.length < W.length := by
  obtain ⟨_, m, _, _, m0, _, hm⟩ := lab_max (n := W.length) (E := E) (by have := h.n; omega) h.row
  have := hm.2 h.eff
  omega
theorem GOk.gr {W : List Int} {E : List (List Int)} (h : GOk W E) : GrF W E :=
  ⟨h.n, within_geti h.w, foE_of h.row h.srt h.eff, by have := h.len; have := h.n; omega⟩
noncomputable def gok (W : List Int) (E : List (List Int)) : Bool := @decide (GOk W E) (Classical.propDecidable _)
theorem gok_iff {W : List Int} {E : List (List Int)} : gok W E = true ↔ GOk W E := by
  unfold gok; exact @decide_eq_true_iff _ (Classical.propDecidable _)
theorem gok_f {W : List Int} {E : List (List Int)} (h : ¬ GOk W E) : gok W E = false := by
  cases e : gok W E with
  | false => rfl
  | true => exact absurd (gok_iff.1 e) h
theorem gets_eq {E : List (List Int)} {k : Nat} (h : k < E.length) : E[k] = gets E (k : Nat) := by simp [gets, h]
theorem pw_snoc {E : List (List Int)} {k : Nat} (hk : k < E.length) : (E.take (k + 1)).Pairwise lx ↔ (E.take k).Pairwise lx ∧ (k = 0 ∨ lx (gets E ((k - 1 : Nat))) (gets E (k : Nat))) := by
  rw [List.take_succ_eq_append_getElem hk, List.pairwise_append, gets_eq hk]
  constructor
  · rintro ⟨h1, _, h3⟩
    refine ⟨h1, ?_⟩
    by_cases hz : k = 0
    · exact .inl hz
    · right
      refine h3 _ ?_ _ (by simp)
      rw [← gets_eq (by omega)]
      exact List.mem_take_iff_getElem.2 ⟨k - 1, by omega, rfl⟩
  · rintro ⟨h1, h2⟩
    refine ⟨h1, by simp, fun a ha b hb => ?_⟩
    rw [List.mem_singleton.1 hb]
    obtain ⟨j, hj, rfl⟩ := List.mem_take_iff_getElem.1 ha
    rcases h2 with h2 | h2
    · omega
    · by_cases e : j = k - 1
      · subst e; rw [gets_eq (by omega)]; exact h2
      · refine lx_tr ?_ h2
        have := List.pairwise_iff_getElem.1 h1 j (k - 1) (by rw [List.length_take]; omega) (by rw [List.length_take]; omega) (by omega)
        rw [List.getElem_take, List.getElem_take, gets_eq (k := k - 1) (by omega)] at this
        exact this
theorem pw_take {E : List (List Int)} (h : E.Pairwise lx) (k : Nat) : (E.take k).Pairwise lx := h.sublist (List.take_sublist _ _)
theorem maxL_eq : ∀ {xs : List Int} {m0 m : Int}, (∀ x ∈ xs, x ≤ m) → m0 ≤ m → (m ∈ xs ∨ m0 = m) → maxL xs m0 = m
  | [], m0, m, _, _, h => by rcases h with h | h; cases h; exact h
  | x :: xs, m0, m, h1, h2, h3 => by
    rw [maxL]
    refine maxL_eq (fun y hy => h1 y (by simp [hy])) (by have := h1 x (by simp); omega) ?_
    have := h1 x (by simp)
    rcases h3 with h3 | h3
    · rcases List.mem_cons.1 h3 with h3 | h3
      · right; omega
      · exact .inl h3
    · right; omega

set_option maxHeartbeats 16000000 in
theorem isGraph_c (W : List Int) (E : List (List Int)) : AFnV Try.prog 29 [.agg [.ints W, .intss E]] (.bool (gok W E)) := by
  (refine AFnV.start Try.func29 Try.ntmps29 rfl (by kernel_rfl) fun hk => ?_; simp only [Env.start, enumF, List.length_cons, List.length_nil, Nat.reduceAdd, Nat.reduceSub, List.cons_append, List.nil_append])
  have hwi := within_c W (-1000) 1000
  by_cases c0 : 1 ≤ W.length ∧ W.length ≤ 40 ∧ withinL W (-1000) 1000 = true ∧ E.length < W.length
  · obtain ⟨c1, c2, c3, c4⟩ := c0
    rw [c3] at hwi
    repeat' (first | (apply AOps.nil; try simp only [List.nil_append, List.cons_append, List.set_cons_zero, List.set_cons_succ, List.length_cons, List.length_nil, Nat.reduceAdd, AV.sh, AV.sh1, AV.sh0, AO.sh, List.map_cons, List.map_nil, Nat.zero_add, Nat.add_zero, setAll]) | ((apply AOps.splitP; exact rfl; exact rfl) <;> intro h) | (apply w_move; exact rfl; exact rfl) | (apply w_assign; exact rfl; exact rfl) | apply AWp.seq | apply AWp.region | ((apply AWp.condP; exact rfl) <;> intro h) | (apply AWp.condT; exact rfl) | apply AWp.block | apply AWp.ret | apply AWp.skip | (apply w_skip; exact rfl) | (apply w_pickT; exact rfl; exact rfl; exact rfl) | (apply w_pickF; exact rfl; exact rfl; exact rfl) | (apply w_len; exact rfl; exact rfl; first | exact .ints _ | exact .intss _ | exact .sli rfl | exact .sls rfl | exact .slr rfl | exact .orow rfl | exact .nil) | (apply w_call (hwi); exact rfl; exact rfl; focus ((repeat (first | exact im_nil | refine im_cons rfl (.val _) ?_ | refine im_cons rfl (.ints _) ?_)); done)) | omega | ((first | apply w_lss | apply w_gtr | apply w_geq | apply w_ld | apply w_fa); iterate 3 exact rfl) | ((first | apply w_not | apply w_boxa); iterate 2 exact rfl) | (apply w_ldb; iterate 5 exact rfl))
    refine AWp.loop (ι := Nat) (fun k => ⟨89, [(1, .optr 0 0), (3, .i W.length), (30, .intss E), (31, .i E.length), (32, .i k)]⟩) (fun _ => [.bx 29 [.ints W, .intss E]]) (fun k => k ≤ E.length ∧ (∀ e ∈ E.take k, EIn W.length e) ∧ (E.take k).Pairwise lx) (fun k => E.length - k) 0 ⟨by omega, by simp, by simp⟩ ⟨lee rfl (by (repeat (first | exact le_nil | refine le_eq rfl rfl ?_))), by (repeat (first | exact lo_nil | refine lo_eq rfl ?_)), rfl, rfl⟩ ?_
    rintro k ⟨k0, k1, k2⟩
    by_cases hk : k < E.length
    · have hsn := pw_snoc hk
      have hrow : ∀ f ∈ E.take (k + 1), EIn W.length f ∨ f = gets E (k : Nat) := fun f hf => by
        rw [List.take_succ_eq_append_getElem hk, gets_eq hk] at hf
        rcases List.mem_append.1 hf with hf | hf
        · exact .inl (k1 f hf)
        · exact .inr (List.mem_singleton.1 hf)
      have hmem : gets E (k : Nat) ∈ E := gets_mem (by omega) (by omega)
      by_cases he : EIn W.length (gets E (k : Nat))
      · have he' := he
        obtain ⟨e1, e2, e3, e4⟩ := he'
        by_cases hz : k = 0
        · subst hz
          repeat' (first | (apply AOps.nil; try simp only [List.nil_append, List.cons_append, List.set_cons_zero, List.set_cons_succ, List.length_cons, List.length_nil, Nat.reduceAdd, AV.sh, AV.sh1, AV.sh0, AO.sh, List.map_cons, List.map_nil, Nat.zero_add, Nat.add_zero, setAll]) | (apply w_move; exact rfl; exact rfl) | (apply w_assign; exact rfl; exact rfl) | apply AWp.seq | apply AWp.region | ((apply AWp.condP; exact rfl) <;> intro h) | apply AWp.block | apply AWp.exit | apply AWp.skip | omega | ((first | apply w_lss | apply w_idx | apply w_ld); iterate 3 exact rfl) | ((first | apply w_idxs | apply w_lds); iterate 3 exact rfl))
          refine AWp.regionQ (by kernel_rfl) (by kernel_rfl) ?_
          repeat' (first | (apply AOps.nil; try simp only [List.nil_append, List.cons_append, List.set_cons_zero, List.set_cons_succ, List.length_cons, List.length_nil, Nat.reduceAdd, AV.sh, AV.sh1, AV.sh0, AO.sh, List.map_cons, List.map_nil, Nat.zero_add, Nat.add_zero, setAll]) | ((apply AOps.splitP; exact rfl; exact rfl) <;> intro h) | (apply w_move; exact rfl; exact rfl) | (apply w_assign; exact rfl; exact rfl) | apply AWp.seq | apply AWp.region | ((apply AWp.condP; exact rfl) <;> intro h) | (apply AWp.condT; exact rfl) | (apply AWp.condF; exact rfl) | apply AWp.ret | apply AWp.skip | (apply w_skip; exact rfl) | (apply w_pickT; exact rfl; exact rfl; exact rfl) | (apply w_pickF; exact rfl; exact rfl; exact rfl) | (apply w_len; exact rfl; exact rfl; first | exact .ints _ | exact .intss _ | exact .sli rfl | exact .sls rfl | exact .slr rfl | exact .orow rfl | exact .nil) | omega | ((first | apply w_lss | apply w_gtr | apply w_geq | apply w_neq | apply w_add | apply w_idx | apply w_ld); iterate 3 exact rfl) | (apply inI_of <;> omega))
          all_goals try (exfalso; omega)
          exact ⟨1, ⟨by omega, fun f hf => (hrow f hf).elim id fun h => h ▸ he, hsn.2 ⟨k2, .inl rfl⟩⟩, by omega, ⟨lee rfl (by (repeat (first | exact le_nil | refine le_eq rfl rfl ?_))), by (repeat (first | exact lo_nil | refine lo_eq rfl ?_)), rfl, rfl⟩⟩
        · have hp1 : gets E (((k : Nat) : Int) - 1) = gets E ((k - 1 : Nat) : Int) := by congr 1; omega
          have hm1 : gets E ((k - 1 : Nat) : Int) ∈ E.take k := by
            rw [← gets_eq (by omega)]
            exact List.mem_take_iff_getElem.2 ⟨k - 1, by omega, rfl⟩
          have hcm := compare_c (gets E ((k - 1 : Nat) : Int)) (gets E (k : Nat)) (k1 _ hm1).1 e1
          rw [← hp1] at hcm
          by_cases hlx : lx (gets E ((k - 1 : Nat) : Int)) (gets E (k : Nat))
          · have hcv : cmpR (gets E (((k : Nat) : Int) - 1)) (gets E (k : Nat)) = -1 := by rw [hp1]; unfold cmpR; rw [if_pos hlx]
            rw [hcv] at hcm
            repeat' (first | (apply AOps.nil; try simp only [List.nil_append, List.cons_append, List.set_cons_zero, List.set_cons_succ, List.length_cons, List.length_nil, Nat.reduceAdd, AV.sh, AV.sh1, AV.sh0, AO.sh, List.map_cons, List.map_nil, Nat.zero_add, Nat.add_zero, setAll]) | (apply w_move; exact rfl; exact rfl) | (apply w_assign; exact rfl; exact rfl) | apply AWp.seq | apply AWp.region | ((apply AWp.condP; exact rfl) <;> intro h) | apply AWp.block | apply AWp.exit | apply AWp.skip | omega | ((first | apply w_lss | apply w_idx | apply w_ld); iterate 3 exact rfl) | ((first | apply w_idxs | apply w_lds); iterate 3 exact rfl))
            refine AWp.regionQ (by kernel_rfl) (by kernel_rfl) ?_
            repeat' (first | (apply AOps.nil; try simp only [List.nil_append, List.cons_append, List.set_cons_zero, List.set_cons_succ, List.length_cons, List.length_nil, Nat.reduceAdd, AV.sh, AV.sh1, AV.sh0, AO.sh, List.map_cons, List.map_nil, Nat.zero_add, Nat.add_zero, setAll]) | ((apply AOps.splitP; exact rfl; exact rfl) <;> intro h) | (apply w_move; exact rfl; exact rfl) | (apply w_assign; exact rfl; exact rfl) | apply AWp.seq | apply AWp.region | ((apply AWp.condP; exact rfl) <;> intro h) | (apply AWp.condT; exact rfl) | (apply AWp.condF; exact rfl) | apply AWp.ret | apply AWp.skip | (apply w_skip; exact rfl) | (apply w_pickT; exact rfl; exact rfl; exact rfl) | (apply w_pickF; exact rfl; exact rfl; exact rfl) | (apply w_len; exact rfl; exact rfl; first | exact .ints _ | exact .intss _ | exact .sli rfl | exact .sls rfl | exact .slr rfl | exact .orow rfl | exact .nil) | (apply w_call (hcm); exact rfl; exact rfl; focus ((repeat (first | exact im_nil | refine im_cons rfl (.ints _) ?_)); done)) | omega | ((first | apply w_lss | apply w_gtr | apply w_geq | apply w_neq | apply w_add | apply w_sub | apply w_idx | apply w_ld | apply w_fa); iterate 3 exact rfl) | ((first | apply w_idxs | apply w_lds); iterate 3 exact rfl) | (apply w_ldb; iterate 5 exact rfl) | (apply inI_of <;> omega))
            all_goals try (exfalso; omega)
            exact ⟨k + 1, ⟨by omega, fun f hf => (hrow f hf).elim id fun h => h ▸ he, hsn.2 ⟨k2, .inr hlx⟩⟩, by omega, ⟨lee rfl (by (repeat (first | exact le_nil | refine le_eq rfl rfl ?_))), by (repeat (first | exact lo_nil | refine lo_eq rfl ?_)), rfl, rfl⟩⟩
          · have hno : gok W E = false := gok_f fun h => by
              have := (hsn.1 (pw_take h.srt (k + 1))).2
              rcases this with h5 | h5
              · exact hz h5
              · exact hlx h5
            have hcv : 0 ≤ cmpR (gets E (((k : Nat) : Int) - 1)) (gets E (k : Nat)) ∧ cmpR (gets E (((k : Nat) : Int) - 1)) (gets E (k : Nat)) ≤ 1 := by
              rw [hp1]; unfold cmpR; rw [if_neg hlx]; split <;> omega
            repeat' (first | (apply AOps.nil; try simp only [List.nil_append, List.cons_append, List.set_cons_zero, List.set_cons_succ, List.length_cons, List.length_nil, Nat.reduceAdd, AV.sh, AV.sh1, AV.sh0, AO.sh, List.map_cons, List.map_nil, Nat.zero_add, Nat.add_zero, setAll]) | (apply w_move; exact rfl; exact rfl) | (apply w_assign; exact rfl; exact rfl) | apply AWp.seq | apply AWp.region | ((apply AWp.condP; exact rfl) <;> intro h) | apply AWp.block | apply AWp.exit | apply AWp.skip | omega | ((first | apply w_lss | apply w_idx | apply w_ld); iterate 3 exact rfl) | ((first | apply w_idxs | apply w_lds); iterate 3 exact rfl))
            refine AWp.regionQ (by kernel_rfl) (by kernel_rfl) ?_
            repeat' (first | (apply AOps.nil; try simp only [List.nil_append, List.cons_append, List.set_cons_zero, List.set_cons_succ, List.length_cons, List.length_nil, Nat.reduceAdd, AV.sh, AV.sh1, AV.sh0, AO.sh, List.map_cons, List.map_nil, Nat.zero_add, Nat.add_zero, setAll]) | ((apply AOps.splitP; exact rfl; exact rfl) <;> intro h) | (apply w_move; exact rfl; exact rfl) | (apply w_assign; exact rfl; exact rfl) | apply AWp.seq | apply AWp.region | ((apply AWp.condP; exact rfl) <;> intro h) | (apply AWp.condT; exact rfl) | (apply AWp.condF; exact rfl) | apply AWp.ret | apply AWp.skip | (apply w_skip; exact rfl) | (apply w_pickT; exact rfl; exact rfl; exact rfl) | (apply w_pickF; exact rfl; exact rfl; exact rfl) | (apply w_len; exact rfl; exact rfl; first | exact .ints _ | exact .intss _ | exact .sli rfl | exact .sls rfl | exact .slr rfl | exact .orow rfl | exact .nil) | (apply w_call (hcm); exact rfl; exact rfl; focus ((repeat (first | exact im_nil | refine im_cons rfl (.ints _) ?_)); done)) | omega | ((first | apply w_lss | apply w_gtr | apply w_geq | apply w_neq | apply w_sub | apply w_idx | apply w_ld | apply w_fa); iterate 3 exact rfl) | ((first | apply w_idxs | apply w_lds); iterate 3 exact rfl) | (apply w_ldb; iterate 5 exact rfl) | (apply inI_of <;> omega))
            all_goals try (exfalso; omega)
            all_goals exact .bool Try.results29 rfl hno.symm
      · have hno : gok W E = false := gok_f fun h => he (h.row _ hmem)
        unfold EIn at he
        repeat' (first | (apply AOps.nil; try simp only [List.nil_append, List.cons_append, List.set_cons_zero, List.set_cons_succ, List.length_cons, List.length_nil, Nat.reduceAdd, AV.sh, AV.sh1, AV.sh0, AO.sh, List.map_cons, List.map_nil, Nat.zero_add, Nat.add_zero, setAll]) | (apply w_move; exact rfl; exact rfl) | (apply w_assign; exact rfl; exact rfl) | apply AWp.seq | apply AWp.region | ((apply AWp.condP; exact rfl) <;> intro h) | apply AWp.block | apply AWp.exit | apply AWp.skip | omega | ((first | apply w_lss | apply w_idx | apply w_ld); iterate 3 exact rfl) | ((first | apply w_idxs | apply w_lds); iterate 3 exact rfl))
        refine AWp.regionQ (by kernel_rfl) (by kernel_rfl) ?_
        repeat' (first | (apply AOps.nil; try simp only [List.nil_append, List.cons_append, List.set_cons_zero, List.set_cons_succ, List.length_cons, List.length_nil, Nat.reduceAdd, AV.sh, AV.sh1, AV.sh0, AO.sh, List.map_cons, List.map_nil, Nat.zero_add, Nat.add_zero, setAll]) | ((apply AOps.splitP; exact rfl; exact rfl) <;> intro h) | (apply w_move; exact rfl; exact rfl) | (apply w_assign; exact rfl; exact rfl) | apply AWp.seq | apply AWp.region | ((apply AWp.condP; exact rfl) <;> intro h) | (apply AWp.condT; exact rfl) | apply AWp.ret | apply AWp.skip | (apply w_skip; exact rfl) | (apply w_pickT; exact rfl; exact rfl; exact rfl) | (apply w_pickF; exact rfl; exact rfl; exact rfl) | (apply w_len; exact rfl; exact rfl; first | exact .ints _ | exact .intss _ | exact .sli rfl | exact .sls rfl | exact .slr rfl | exact .orow rfl | exact .nil) | omega | ((first | apply w_lss | apply w_geq | apply w_neq | apply w_idx | apply w_ld); iterate 3 exact rfl))
        all_goals try (exfalso; omega)
        all_goals exact .bool Try.results29 rfl hno.symm
    · have ek : k = E.length := by omega
      subst ek
      rw [List.take_length] at k1 k2
      obtain ⟨ll, m, hm1, hm2, hm3, hm4, hm5⟩ := lab_max (by omega) k1
      have hlab := labels_c W.length E c2 (by omega) k1
      have hmx : maxL (labF W.length E) (geti (labF W.length E) 0) = m := maxL_eq (fun x hx => (hm1 x hx).2) (hm1 _ (geti_mem (by omega) (by omega))).2 (.inl hm2)
      have hmax := slicesMax_c (labF W.length E) (by omega) (by omega)
      rw [hmx] at hmax
      have hres : gok W E = decide (m + 1 + (E.length : Int) = W.length) := by
        rw [Bool.eq_iff_iff, gok_iff, decide_eq_true_iff, hm5]
        exact ⟨fun h => h.eff, fun h => ⟨⟨c1, c2⟩, c3, k1, k2, h⟩⟩
      generalize labF W.length E = L at *
      repeat' (first | (apply AOps.nil; try simp only [List.nil_append, List.cons_append, List.set_cons_zero, List.set_cons_succ, List.length_cons, List.length_nil, Nat.reduceAdd, AV.sh, AV.sh1, AV.sh0, AO.sh, List.map_cons, List.map_nil, Nat.zero_add, Nat.add_zero, setAll]) | (apply w_move; exact rfl; exact rfl) | (apply w_assign; exact rfl; exact rfl) | apply AWp.seq | apply AWp.region | ((apply AWp.condP; exact rfl) <;> intro h) | apply AWp.block | apply AWp.ret | apply AWp.exit | apply AWp.skip | (apply w_len; exact rfl; exact rfl; first | exact .ints _ | exact .intss _ | exact .sli rfl | exact .sls rfl | exact .slr rfl | exact .orow rfl | exact .nil) | (apply w_callm (hlab); (focus ((repeat (first | exact im_nil | refine im_cons rfl (.val _) ?_ | refine im_cons rfl (.intss _) ?_)); done)); rintro r os0 ⟨rfl, rfl⟩; try simp only [List.nil_append, List.cons_append, List.set_cons_zero, List.set_cons_succ, List.length_cons, List.length_nil, Nat.reduceAdd, AV.sh, AV.sh1, AV.sh0, AO.sh, List.map_cons, List.map_nil, Nat.zero_add, Nat.add_zero, setAll]) | (apply w_call (hmax); exact rfl; exact rfl; focus ((repeat (first | exact im_nil | refine im_cons rfl (.sli rfl) ?_)); done)) | omega | ((first | apply w_lss | apply w_eql | apply w_add | apply w_ld | apply w_fa); iterate 3 exact rfl) | (apply w_ldb; iterate 5 exact rfl) | (apply inI_of <;> omega))
      all_goals exact .bool Try.results29 rfl hres.symm
  · have hno : gok W E = false := gok_f fun h => c0 ⟨h.n.1, h.n.2, h.w, h.len⟩
    repeat' (first | (apply AOps.nil; try simp only [List.nil_append, List.cons_append, List.set_cons_zero, List.set_cons_succ, List.length_cons, List.length_nil, Nat.reduceAdd, AV.sh, AV.sh1, AV.sh0, AO.sh, List.map_cons, List.map_nil, Nat.zero_add, Nat.add_zero, setAll]) | ((apply AOps.splitP; exact rfl; exact rfl) <;> intro h) | (apply w_move; exact rfl; exact rfl) | (apply w_assign; exact rfl; exact rfl) | apply AWp.seq | apply AWp.region | ((apply AWp.condP; exact rfl) <;> intro h) | (apply AWp.condT; exact rfl) | apply AWp.block | apply AWp.ret | apply AWp.skip | (apply w_skip; exact rfl) | (apply w_pickT; exact rfl; exact rfl; exact rfl) | (apply w_pickF; exact rfl; exact rfl; exact rfl) | (apply w_len; exact rfl; exact rfl; first | exact .ints _ | exact .intss _ | exact .sli rfl | exact .sls rfl | exact .slr rfl | exact .orow rfl | exact .nil) | (apply w_call (hwi); exact rfl; exact rfl; focus ((repeat (first | exact im_nil | refine im_cons rfl (.val _) ?_ | refine im_cons rfl (.ints _) ?_)); done)) | ((first | apply w_lss | apply w_gtr | apply w_geq | apply w_ld | apply w_fa); iterate 3 exact rfl) | ((first | apply w_not | apply w_boxa); iterate 2 exact rfl) | (apply w_ldb; iterate 5 exact rfl) | ((apply AOps.splitB; exact rfl; exact rfl) <;> intro h))
    all_goals first | exact .bool Try.results29 rfl hno.symm | (exfalso; refine c0 ⟨by omega, by omega, ?_, by omega⟩; simp_all; done)
end Go.Proofs.Ytlkhcelodcneiaa
/-
  The order of two rows of two, walked. Condition: two numbers each.
-/
namespace Go.Proofs.Ytlkhcelodcneiaa
open Go Go.RowKit
attribute [local irreducible] AWp AOps ResIs Ret1 QOp LOp COp AFnV AFn Imms LeE LeO
set_option maxHeartbeats 1000000
set_option linter.unusedSimpArgs false
set_option linter.unusedVariables false

def less2 (a b : List Int) : Bool := decide (geti a 0 < geti b 0 ∨ (geti a 0 = geti b 0 ∧ geti a 1 < geti b 1))
theorem l01Less_c (a b : List Int) (ha : a.length = 2) (hb : b.length = 2) : AFnV Try.prog 40 [.ints a, .ints b] (.bool (less2 a b)) := by
  (refine AFnV.start Try.func40 Try.ntmps40 rfl (by kernel_rfl) fun hk => ?_; simp only [Env.start, enumF, List.length_cons, List.length_nil, Nat.reduceAdd, Nat.reduceSub, List.cons_append, List.nil_append])
  repeat' (first
  | (apply AOps.nil; try simp only [List.nil_append, List.cons_append, List.set_cons_zero, List.set_cons_succ, List.length_cons, List.length_nil, Nat.reduceAdd, AV.sh, AV.sh1, AV.sh0, AO.sh, List.map_cons, List.map_nil, Nat.zero_add, Nat.add_zero, setAll])
  | ((apply AOps.splitP; exact rfl; exact rfl) <;> intro h)
  | ((apply AOps.splitN; exact rfl; exact rfl) <;> intro h)
  | (apply w_move; exact rfl; exact rfl)
  | (apply w_assign; exact rfl; exact rfl)
  | apply AWp.seq
  | apply AWp.region
  | ((apply AWp.condP; exact rfl) <;> intro h)
  | ((apply AWp.condN; exact rfl) <;> intro h)
  | (apply AWp.condT; exact rfl)
  | (apply AWp.condF; exact rfl)
  | ((apply AWp.condB; exact rfl) <;> intro h)
  | apply AWp.block
  | apply AWp.ret
  | apply AWp.exit
  | apply AWp.skip
  | (apply AWp.regionQ; kernel_rfl; kernel_rfl)
  | (apply if_pos'; exact rfl)
  | (apply if_neg'; decide)
  | (apply w_skip; exact rfl)
  | (apply w_pickT; exact rfl; exact rfl; exact rfl)
  | (apply w_pickF; exact rfl; exact rfl; exact rfl)
  | (apply w_len; exact rfl; exact rfl; first | exact .ints _ | exact .intss _ | exact .sli rfl | exact .sls rfl | exact .slr rfl | exact .orow rfl | exact .nil)
  | ((first | apply w_lss | apply w_leq | apply w_gtr | apply w_geq | apply w_eql | apply w_neq | apply w_add | apply w_sub | apply w_mul | apply w_idx | apply w_ld | apply w_fld | apply w_fa | apply w_extv | apply w_min | apply w_max | apply w_slhi | apply w_sllo | apply w_bs2); iterate 3 exact rfl)
  | ((first | apply w_eqlb | apply w_neqb | apply w_idxs | apply w_lds | apply w_ext); iterate 3 exact rfl)
  | (apply w_rem; exact rfl; exact rfl; exact rfl; (focus (omega; done)); (focus (omega; done)))
  | (apply w_quo; exact rfl; exact rfl; exact rfl; (focus (omega; done)); (focus (omega; done)))
  | (apply w_remT; exact rfl; exact rfl; exact rfl)
  | (apply w_quoT; exact rfl; exact rfl; exact rfl)
  | ((first | apply w_not | apply w_neg | apply w_conv | apply w_build0 | apply w_bs1 | apply w_boxa); iterate 2 exact rfl)
  | (apply w_idxo; exact rfl; exact rfl; (first | exact .sli rfl | exact .sls rfl | exact .slr rfl); exact rfl)
  | ((first | apply w_idxr | apply w_ldr); iterate 4 exact rfl)
  | (apply w_ldo; iterate 4 exact rfl)
  | (apply w_ldls; iterate 4 exact rfl)
  | (apply w_ldrp; iterate 4 exact rfl)
  | (apply w_ldb; iterate 5 exact rfl)
  | (apply w_ldst; iterate 5 exact rfl)
  | ((first | apply w_sllh | apply w_stbi); iterate 4 exact rfl)
  | ((first | apply w_oslo | apply w_oshi | apply w_stbii); iterate 4 exact rfl)
  | (apply w_build1; exact rfl; exact rfl; (first | exact one_val rfl rfl | exact one_ints | exact one_intss | exact one_own rfl True.intro))
  | (apply w_build2; exact rfl; exact rfl; exact rfl; (first | exact one_val rfl rfl | exact one_ints | exact one_intss | exact one_own rfl True.intro); (first | exact one_val rfl rfl | exact one_ints | exact one_intss | exact one_own rfl True.intro))
  | (apply w_bs0; iterate 1 exact rfl)
  | (apply w_appn; exact rfl; exact rfl; (first | exact .ints _ | exact .sli rfl | exact .orow rfl | exact .nil | exact .osub rfl (by simp; omega)); exact rfl)
  | (apply w_app; exact rfl; exact rfl; exact rfl; exact rfl; (first | exact .ints _ | exact .sli rfl | exact .orow rfl | exact .nil | exact .osub rfl (by simp; omega)); rotate_left 1; simp only [Env.mp, List.map_cons, List.map_nil, List.set_cons_zero, List.set_cons_succ, AV.kill, AV.kill1, AO.kill, AV.noRow, AV.noRow1, AO.via, reduceIte, Nat.reduceEqDiff, Nat.reduceLT, Env.up, Nat.zero_ne_one, Nat.one_ne_zero, Nat.reduceAdd, List.cons_append, List.nil_append]; rotate_left 1)
  | (apply w_alst; iterate 2 exact rfl)
  | (apply w_alone; iterate 3 exact rfl)
  | (apply w_mki; exact rfl; exact rfl; rotate_left 3; exact rfl; rotate_left 1)
  | (apply w_mkr; exact rfl; exact rfl; rotate_left 3; exact rfl; rotate_left 1)
  | (apply w_sti; exact rfl; exact rfl; rotate_left 1; exact rfl; rotate_left 2)
  | (apply w_stst; iterate 5 exact rfl)
  | (apply w_stbv; iterate 6 exact rfl)
  | (apply w_stbo; exact rfl; exact rfl; exact rfl; exact rfl; exact rfl; exact True.intro)
  | ((apply AOps.splitB; exact rfl; exact rfl) <;> intro h)
  | apply AllOf.nil
  | (apply AllOf.cons; exact rfl)
  | (apply AAny.take; exact rfl; exact rfl; kernel_rfl; kernel_rfl)
  | (apply AAny.all; exact rfl)
  | (apply AAny.done; exact rfl)
  | (apply inI_of <;> omega)
  | omega
  | (simp <;> omega))
  refine AWp.loop (ι := Nat) (fun i => ⟨41, [(0, .ints a), (1, .ints b), (5, .i i)]⟩) (fun _ => []) (fun i => i ≤ 2 ∧ (1 ≤ i → geti a 0 = geti b 0) ∧ (2 ≤ i → geti a 1 = geti b 1)) (fun i => 2 - i) 0 ⟨by omega, fun h => by omega, fun h => by omega⟩ ⟨lee rfl (by (repeat (first | exact le_nil | refine le_eq rfl rfl ?_ | refine le_eq rfl (congrArg AV.i (by omega)) ?_))), by (repeat (first | exact lo_nil | refine lo_dead ?_ | refine lo_eq rfl ?_)), rfl, rfl⟩ ?_
  rintro i ⟨h0, h1, h2⟩
  rcases (show i = 0 ∨ i = 1 ∨ i = 2 by omega) with rfl | rfl | rfl
  all_goals repeat' (first
  | (apply AOps.nil; try simp only [List.nil_append, List.cons_append, List.set_cons_zero, List.set_cons_succ, List.length_cons, List.length_nil, Nat.reduceAdd, AV.sh, AV.sh1, AV.sh0, AO.sh, List.map_cons, List.map_nil, Nat.zero_add, Nat.add_zero, setAll])
  | ((apply AOps.splitP; exact rfl; exact rfl) <;> intro h)
  | ((apply AOps.splitN; exact rfl; exact rfl) <;> intro h)
  | (apply w_move; exact rfl; exact rfl)
  | (apply w_assign; exact rfl; exact rfl)
  | apply AWp.seq
  | apply AWp.region
  | ((apply AWp.condP; exact rfl) <;> intro h)
  | ((apply AWp.condN; exact rfl) <;> intro h)
  | (apply AWp.condT; exact rfl)
  | (apply AWp.condF; exact rfl)
  | ((apply AWp.condB; exact rfl) <;> intro h)
  | apply AWp.block
  | apply AWp.ret
  | apply AWp.exit
  | apply AWp.skip
  | (apply AWp.regionQ; kernel_rfl; kernel_rfl)
  | (apply if_pos'; exact rfl)
  | (apply if_neg'; decide)
  | (apply w_skip; exact rfl)
  | (apply w_pickT; exact rfl; exact rfl; exact rfl)
  | (apply w_pickF; exact rfl; exact rfl; exact rfl)
  | (apply w_len; exact rfl; exact rfl; first | exact .ints _ | exact .intss _ | exact .sli rfl | exact .sls rfl | exact .slr rfl | exact .orow rfl | exact .nil)
  | ((first | apply w_lss | apply w_leq | apply w_gtr | apply w_geq | apply w_eql | apply w_neq | apply w_add | apply w_sub | apply w_mul | apply w_idx | apply w_ld | apply w_fld | apply w_fa | apply w_extv | apply w_min | apply w_max | apply w_slhi | apply w_sllo | apply w_bs2); iterate 3 exact rfl)
  | ((first | apply w_eqlb | apply w_neqb | apply w_idxs | apply w_lds | apply w_ext); iterate 3 exact rfl)
  | (apply w_rem; exact rfl; exact rfl; exact rfl; (focus (omega; done)); (focus (omega; done)))
  | (apply w_quo; exact rfl; exact rfl; exact rfl; (focus (omega; done)); (focus (omega; done)))
  | (apply w_remT; exact rfl; exact rfl; exact rfl)
  | (apply w_quoT; exact rfl; exact rfl; exact rfl)
  | ((first | apply w_not | apply w_neg | apply w_conv | apply w_build0 | apply w_bs1 | apply w_boxa); iterate 2 exact rfl)
  | (apply w_idxo; exact rfl; exact rfl; (first | exact .sli rfl | exact .sls rfl | exact .slr rfl); exact rfl)
  | ((first | apply w_idxr | apply w_ldr); iterate 4 exact rfl)
  | (apply w_ldo; iterate 4 exact rfl)
  | (apply w_ldls; iterate 4 exact rfl)
  | (apply w_ldrp; iterate 4 exact rfl)
  | (apply w_ldb; iterate 5 exact rfl)
  | (apply w_ldst; iterate 5 exact rfl)
  | ((first | apply w_sllh | apply w_stbi); iterate 4 exact rfl)
  | ((first | apply w_oslo | apply w_oshi | apply w_stbii); iterate 4 exact rfl)
  | (apply w_build1; exact rfl; exact rfl; (first | exact one_val rfl rfl | exact one_ints | exact one_intss | exact one_own rfl True.intro))
  | (apply w_build2; exact rfl; exact rfl; exact rfl; (first | exact one_val rfl rfl | exact one_ints | exact one_intss | exact one_own rfl True.intro); (first | exact one_val rfl rfl | exact one_ints | exact one_intss | exact one_own rfl True.intro))
  | (apply w_bs0; iterate 1 exact rfl)
  | (apply w_appn; exact rfl; exact rfl; (first | exact .ints _ | exact .sli rfl | exact .orow rfl | exact .nil | exact .osub rfl (by simp; omega)); exact rfl)
  | (apply w_app; exact rfl; exact rfl; exact rfl; exact rfl; (first | exact .ints _ | exact .sli rfl | exact .orow rfl | exact .nil | exact .osub rfl (by simp; omega)); rotate_left 1; simp only [Env.mp, List.map_cons, List.map_nil, List.set_cons_zero, List.set_cons_succ, AV.kill, AV.kill1, AO.kill, AV.noRow, AV.noRow1, AO.via, reduceIte, Nat.reduceEqDiff, Nat.reduceLT, Env.up, Nat.zero_ne_one, Nat.one_ne_zero, Nat.reduceAdd, List.cons_append, List.nil_append]; rotate_left 1)
  | (apply w_alst; iterate 2 exact rfl)
  | (apply w_alone; iterate 3 exact rfl)
  | (apply w_mki; exact rfl; exact rfl; rotate_left 3; exact rfl; rotate_left 1)
  | (apply w_mkr; exact rfl; exact rfl; rotate_left 3; exact rfl; rotate_left 1)
  | (apply w_sti; exact rfl; exact rfl; rotate_left 1; exact rfl; rotate_left 2)
  | (apply w_stst; iterate 5 exact rfl)
  | (apply w_stbv; iterate 6 exact rfl)
  | (apply w_stbo; exact rfl; exact rfl; exact rfl; exact rfl; exact rfl; exact True.intro)
  | ((apply AOps.splitB; exact rfl; exact rfl) <;> intro h)
  | apply AllOf.nil
  | (apply AllOf.cons; exact rfl)
  | (apply AAny.take; exact rfl; exact rfl; kernel_rfl; kernel_rfl)
  | (apply AAny.all; exact rfl)
  | (apply AAny.done; exact rfl)
  | (apply inI_of <;> omega)
  | omega
  | (simp <;> omega))
  all_goals try simp only [Int.natCast_zero, Int.natCast_one] at *
  all_goals first
    | exact ⟨1, ⟨by omega, fun _ => by omega, fun h => by omega⟩, by omega, ⟨lee rfl (by (repeat (first | exact le_nil | refine le_eq rfl rfl ?_ | refine le_eq rfl (congrArg AV.i (by omega)) ?_))), by (repeat (first | exact lo_nil | refine lo_dead ?_ | refine lo_eq rfl ?_)), rfl, rfl⟩⟩
    | exact ⟨2, ⟨by omega, fun _ => by omega, fun _ => by omega⟩, by omega, ⟨lee rfl (by (repeat (first | exact le_nil | refine le_eq rfl rfl ?_ | refine le_eq rfl (congrArg AV.i (by omega)) ?_))), by (repeat (first | exact lo_nil | refine lo_dead ?_ | refine lo_eq rfl ?_)), rfl, rfl⟩⟩
    | (refine .bool Try.results40 rfl ?_
       unfold less2
       rw [Bool.eq_iff_iff, decide_eq_true_iff, decide_eq_true_iff]
       omega)

end Go.Proofs.Ytlkhcelodcneiaa
/-
  Whether a graph is one, walked: the reference. No condition on the graph.
-/
namespace Go.Proofs.Ytlkhcelodcneiaa
open Go Go.RowKit
attribute [local irreducible] AWp AOps ResIs Ret1 QOp LOp COp AFnV AFn Imms LeE LeO
set_option maxHeartbeats 1000000
set_option linter.unusedSimpArgs false
set_option linter.unusedVariables false

def mgR : List Int → List (List Int) → List Int
  | L, [] => L
  | L, e :: E => mgR (mgL L (geti L (geti e 0)) (geti L (geti e 1))) E
theorem mgR_app : ∀ (A B : List (List Int)) (L : List Int), mgR L (A ++ B) = mgR (mgR L A) B
  | [], _, _ => rfl
  | _ :: A, B, L => mgR_app A B _
theorem mgR_len : ∀ (A : List (List Int)) (L : List Int), (mgR L A).length = L.length
  | [], _ => rfl
  | _ :: A, L => by rw [mgR, mgR_len A, mgL_len]
theorem effL_app : ∀ (A B : List (List Int)) (L : List Int), effL L (A ++ B) ↔ effL L A ∧ effL (mgR L A) B
  | [], _, _ => by simp [effL, mgR]
  | e :: A, B, L => by
    rw [List.cons_append, effL, effL, mgR, effL_app A B, and_assoc]
theorem mgR_rng {n : Nat} : ∀ {A : List (List Int)} {L : List Int}, L.length = n → (∀ x ∈ L, 0 ≤ x ∧ x < n) → (∀ e ∈ A, EIn n e) → ∀ x ∈ mgR L A, 0 ≤ x ∧ x < n
  | [], L, _, h, _ => h
  | e :: A, L, hl, h, hA => by
    obtain ⟨_, e2, e3, e4⟩ := hA e (by simp)
    rw [mgR]
    refine mgR_rng (by rw [mgL_len]; exact hl) (fun x hx => ?_) fun f hf => hA f (by simp [hf])
    unfold mgL at hx
    obtain ⟨y, hy, rfl⟩ := List.mem_map.1 hx
    split
    · exact h _ (geti_mem e2 (by omega))
    · exact h y hy
theorem idL_rng (n : Nat) : ∀ x ∈ idL n, 0 ≤ x ∧ x < n := fun x hx => by
  unfold idL at hx
  obtain ⟨k, hk, rfl⟩ := List.mem_map.1 hx
  have := List.mem_range.1 hk
  omega
theorem idL_succ (n : Nat) : idL (n + 1) = idL n ++ [(n : Int)] := by unfold idL; rw [List.range_succ, List.map_append]; rfl
theorem lessLx (a b : List Int) : less2 a b = true ↔ lx a b := by unfold less2 lx; exact decide_eq_true_iff

set_option maxHeartbeats 32000000 in
theorem l11Is_c (W : List Int) (E : List (List Int)) : AFnV Try.prog 23 [.agg [.ints W, .intss E]] (.bool (gok W E)) := by
  (refine AFnV.start Try.func23 Try.ntmps23 rfl (by kernel_rfl) fun hk => ?_; simp only [Env.start, enumF, List.length_cons, List.length_nil, Nat.reduceAdd, Nat.reduceSub, List.cons_append, List.nil_append])
  by_cases c0 : 1 ≤ W.length ∧ W.length ≤ 40
  case neg =>
    have hno : gok W E = false := gok_f fun h => c0 h.n
    repeat' (first | (apply AOps.nil; try simp only [List.nil_append, List.cons_append, List.set_cons_zero, List.set_cons_succ, List.length_cons, List.length_nil, Nat.reduceAdd, AV.sh, AV.sh1, AV.sh0, AO.sh, List.map_cons, List.map_nil, Nat.zero_add, Nat.add_zero, setAll]) | ((apply AOps.splitP; exact rfl; exact rfl) <;> intro h) | (apply w_move; exact rfl; exact rfl) | (apply w_assign; exact rfl; exact rfl) | apply AWp.seq | apply AWp.region | ((apply AWp.condP; exact rfl) <;> intro h) | (apply AWp.condT; exact rfl) | apply AWp.block | apply AWp.ret | apply AWp.skip | (apply w_skip; exact rfl) | (apply w_pickT; exact rfl; exact rfl; exact rfl) | (apply w_pickF; exact rfl; exact rfl; exact rfl) | (apply w_len; exact rfl; exact rfl; first | exact .ints _ | exact .intss _ | exact .sli rfl | exact .sls rfl | exact .slr rfl | exact .orow rfl | exact .nil) | omega | ((first | apply w_lss | apply w_gtr | apply w_ld | apply w_fa); iterate 3 exact rfl) | ((apply w_boxa); iterate 2 exact rfl) | (apply w_ldb; iterate 5 exact rfl))
    all_goals try (exfalso; omega)
    all_goals try exact .bool Try.results23 rfl hno.symm
  obtain ⟨c1, c2⟩ := c0
  repeat' (first | (apply AOps.nil; try simp only [List.nil_append, List.cons_append, List.set_cons_zero, List.set_cons_succ, List.length_cons, List.length_nil, Nat.reduceAdd, AV.sh, AV.sh1, AV.sh0, AO.sh, List.map_cons, List.map_nil, Nat.zero_add, Nat.add_zero, setAll]) | ((apply AOps.splitP; exact rfl; exact rfl) <;> intro h) | (apply w_move; exact rfl; exact rfl) | (apply w_assign; exact rfl; exact rfl) | apply AWp.seq | apply AWp.region | ((apply AWp.condP; exact rfl) <;> intro h) | (apply AWp.condT; exact rfl) | apply AWp.block | apply AWp.ret | apply AWp.skip | (apply w_skip; exact rfl) | (apply w_pickT; exact rfl; exact rfl; exact rfl) | (apply w_pickF; exact rfl; exact rfl; exact rfl) | (apply w_len; exact rfl; exact rfl; first | exact .ints _ | exact .intss _ | exact .sli rfl | exact .sls rfl | exact .slr rfl | exact .orow rfl | exact .nil) | omega | ((first | apply w_lss | apply w_gtr | apply w_ld | apply w_fa); iterate 3 exact rfl) | ((apply w_boxa); iterate 2 exact rfl) | (apply w_ldb; iterate 5 exact rfl))
  refine AWp.loop (ι := Nat) (fun i => ⟨133, [(1, .optr 0 0), (3, .i W.length), (4, .i i)]⟩) (fun _ => [.bx 29 [.ints W, .intss E]]) (fun i => i ≤ W.length ∧ withinL (W.take i) (-1000) 1000 = true) (fun i => W.length - i) 0 ⟨by omega, rfl⟩ ⟨lee rfl (by (repeat (first | exact le_nil | refine le_eq rfl rfl ?_))), by (repeat (first | exact lo_nil | refine lo_eq rfl ?_)), rfl, rfl⟩ ?_
  rintro i ⟨i0, i1⟩
  by_cases hi : i < W.length
  · have hin := l01In_c (geti W (i : Nat)) (-1000) 1000
    have hst := withinL_snoc W (-1000) 1000 (i : Nat) (by omega) (by omega)
    rw [show ((i : Nat) : Int).toNat = i from rfl, show (((i : Nat) : Int) + 1).toNat = i + 1 from rfl, i1, Bool.true_and] at hst
    cases hc : decide (-1000 ≤ geti W (i : Nat) ∧ geti W (i : Nat) ≤ 1000) with
    | true =>
      rw [hc] at hin hst
      repeat' (first | (apply AOps.nil; try simp only [List.nil_append, List.cons_append, List.set_cons_zero, List.set_cons_succ, List.length_cons, List.length_nil, Nat.reduceAdd, AV.sh, AV.sh1, AV.sh0, AO.sh, List.map_cons, List.map_nil, Nat.zero_add, Nat.add_zero, setAll]) | (apply w_move; exact rfl; exact rfl) | (apply w_assign; exact rfl; exact rfl) | apply AWp.seq | apply AWp.region | ((apply AWp.condP; exact rfl) <;> intro h) | (apply AWp.condF; exact rfl) | apply AWp.block | apply AWp.exit | apply AWp.skip | (apply w_len; exact rfl; exact rfl; first | exact .ints _ | exact .intss _ | exact .sli rfl | exact .sls rfl | exact .slr rfl | exact .orow rfl | exact .nil) | (apply w_call (hin); exact rfl; exact rfl; focus ((repeat (first | exact im_nil | refine im_cons rfl (.val _) ?_)); done)) | omega | ((first | apply w_lss | apply w_add | apply w_idx | apply w_ld | apply w_fa); iterate 3 exact rfl) | ((apply w_not); iterate 2 exact rfl) | (apply w_ldb; iterate 5 exact rfl) | (apply inI_of <;> omega))
      exact ⟨i + 1, ⟨by omega, hst⟩, by omega, ⟨lee rfl (by (repeat (first | exact le_nil | refine le_eq rfl rfl ?_))), by (repeat (first | exact lo_nil | refine lo_eq rfl ?_)), rfl, rfl⟩⟩
    | false =>
      rw [hc] at hin
      have hno : gok W E = false := gok_f fun h => by
        have := within_geti h.w (i : Nat)
        exact (of_decide_eq_false hc) this
      repeat' (first | (apply AOps.nil; try simp only [List.nil_append, List.cons_append, List.set_cons_zero, List.set_cons_succ, List.length_cons, List.length_nil, Nat.reduceAdd, AV.sh, AV.sh1, AV.sh0, AO.sh, List.map_cons, List.map_nil, Nat.zero_add, Nat.add_zero, setAll]) | (apply w_move; exact rfl; exact rfl) | (apply w_assign; exact rfl; exact rfl) | apply AWp.seq | apply AWp.region | ((apply AWp.condP; exact rfl) <;> intro h) | (apply AWp.condT; exact rfl) | apply AWp.block | apply AWp.ret | apply AWp.exit | apply AWp.skip | (apply w_len; exact rfl; exact rfl; first | exact .ints _ | exact .intss _ | exact .sli rfl | exact .sls rfl | exact .slr rfl | exact .orow rfl | exact .nil) | (apply w_call (hin); exact rfl; exact rfl; focus ((repeat (first | exact im_nil | refine im_cons rfl (.val _) ?_)); done)) | omega | ((first | apply w_lss | apply w_idx | apply w_ld | apply w_fa); iterate 3 exact rfl) | ((apply w_not); iterate 2 exact rfl) | (apply w_ldb; iterate 5 exact rfl))
      all_goals exact .bool Try.results23 rfl hno.symm
  have ei : i = W.length := by omega
  subst ei
  rw [List.take_length] at i1
  repeat' (first | (apply AOps.nil; try simp only [List.nil_append, List.cons_append, List.set_cons_zero, List.set_cons_succ, List.length_cons, List.length_nil, Nat.reduceAdd, AV.sh, AV.sh1, AV.sh0, AO.sh, List.map_cons, List.map_nil, Nat.zero_add, Nat.add_zero, setAll]) | (apply w_move; exact rfl; exact rfl) | (apply w_assign; exact rfl; exact rfl) | apply AWp.seq | apply AWp.region | ((apply AWp.condP; exact rfl) <;> intro h) | apply AWp.block | apply AWp.exit | apply AWp.skip | (apply w_len; exact rfl; exact rfl; first | exact .ints _ | exact .intss _ | exact .sli rfl | exact .sls rfl | exact .slr rfl | exact .orow rfl | exact .nil) | omega | ((first | apply w_lss | apply w_ld | apply w_fa); iterate 3 exact rfl) | (apply w_ldb; iterate 5 exact rfl) | (apply w_bs0; iterate 1 exact rfl))
  refine AWp.loop (ι := Nat) (fun i => ⟨133, [(1, .optr 0 0), (3, .i W.length), (5, .own 1), (6, .i i)]⟩) (fun i => [.bx 29 [.ints W, .intss E], .sli 2 (idL i)]) (fun i => i ≤ W.length) (fun i => W.length - i) 0 (by omega) ⟨lee rfl (by (repeat (first | exact le_nil | refine le_eq rfl rfl ?_))), by (repeat (first | exact lo_nil | refine lo_eq rfl ?_)), rfl, rfl⟩ ?_
  intro i i0
  have il := idL_len i
  have is := idL_succ i
  by_cases hi : i < W.length
  · have hbl : ((idL i).length + [(i : Int)].length) * 8 ≤ 140737488355328 := by
      simp only [List.length_cons, List.length_nil]; omega
    generalize idL i = L at *
    repeat' (first | (apply AOps.nil; try simp only [List.nil_append, List.cons_append, List.set_cons_zero, List.set_cons_succ, List.length_cons, List.length_nil, Nat.reduceAdd, AV.sh, AV.sh1, AV.sh0, AO.sh, List.map_cons, List.map_nil, Nat.zero_add, Nat.add_zero, setAll]) | (apply w_move; exact rfl; exact rfl) | (apply w_assign; exact rfl; exact rfl) | apply AWp.seq | apply AWp.region | ((apply AWp.condP; exact rfl) <;> intro h) | apply AWp.block | apply AWp.exit | apply AWp.skip | omega | ((first | apply w_lss | apply w_add); iterate 3 exact rfl) | ((apply w_bs1); iterate 2 exact rfl) | (apply w_app; exact rfl; exact rfl; exact rfl; exact rfl; (exact .sli rfl); rotate_left 1; simp only [Env.mp, List.map_cons, List.map_nil, List.set_cons_zero, List.set_cons_succ, AV.kill, AV.kill1, AO.kill, AV.noRow, AV.noRow1, AO.via, reduceIte, Nat.reduceEqDiff, Nat.reduceLT, Env.up, Nat.zero_ne_one, Nat.one_ne_zero, Nat.reduceAdd, List.cons_append, List.nil_append]; rotate_left 1) | (apply inI_of <;> omega))
    exact ⟨i + 1, by omega, by omega, ⟨lee rfl (by (repeat (first | exact le_nil | refine le_eq rfl rfl ?_))), by (repeat (first | exact lo_nil | refine lo_eq rfl ?_ | refine lo_eq (congrArg (AO.sli _) (is.symm)) ?_)), rfl, rfl⟩⟩
  have ei : i = W.length := by omega
  subst ei
  repeat' (first | (apply AOps.nil; try simp only [List.nil_append, List.cons_append, List.set_cons_zero, List.set_cons_succ, List.length_cons, List.length_nil, Nat.reduceAdd, AV.sh, AV.sh1, AV.sh0, AO.sh, List.map_cons, List.map_nil, Nat.zero_add, Nat.add_zero, setAll]) | (apply w_move; exact rfl; exact rfl) | (apply w_assign; exact rfl; exact rfl) | apply AWp.seq | apply AWp.region | ((apply AWp.condP; exact rfl) <;> intro h) | apply AWp.block | apply AWp.exit | apply AWp.skip | omega | ((apply w_lss); iterate 3 exact rfl))
  refine AWp.loop (ι := Nat) (fun k => ⟨133, [(1, .optr 0 0), (3, .i W.length), (5, .own 1), (7, .i k)]⟩) (fun k => [.bx 29 [.ints W, .intss E], .sli 2 (mgR (idL W.length) (E.take k))]) (fun k => k ≤ E.length ∧ (∀ e ∈ E.take k, EIn W.length e) ∧ (E.take k).Pairwise lx ∧ effL (idL W.length) (E.take k)) (fun k => E.length - k) 0 ⟨by omega, by simp, by simp, trivial⟩ ⟨lee rfl (by (repeat (first | exact le_nil | refine le_eq rfl rfl ?_))), by (repeat (first | exact lo_nil | refine lo_eq rfl ?_)), rfl, rfl⟩ ?_
  rintro k ⟨k0, k1, k2, k3⟩
  by_cases hk : k < E.length
  · have hkn : k + 1 ≤ W.length := by
      obtain ⟨_, m, _, _, m0, _, hm⟩ := lab_max (n := W.length) (E := E.take k) (by omega) k1
      have := hm.2 k3
      rw [List.length_take] at this; omega
    have hsn := pw_snoc hk
    have hrow : ∀ f ∈ E.take (k + 1), EIn W.length f ∨ f = gets E (k : Nat) := fun f hf => by
      rw [List.take_succ_eq_append_getElem hk, gets_eq hk] at hf
      rcases List.mem_append.1 hf with hf | hf
      · exact .inl (k1 f hf)
      · exact .inr (List.mem_singleton.1 hf)
    have hmem : gets E (k : Nat) ∈ E := gets_mem (by omega) (by omega)
    have hml : (mgR (idL W.length) (E.take k)).length = W.length := by rw [mgR_len, idL_len]
    have hmr := mgR_rng (idL_len W.length) (idL_rng W.length) k1
    have het := effL_app (E.take k) [gets E (k : Nat)] (idL W.length)
    have hmt := mgR_app (E.take k) [gets E (k : Nat)] (idL W.length)
    have ets : E.take k ++ [gets E (k : Nat)] = E.take (k + 1) := by rw [List.take_succ_eq_append_getElem hk, gets_eq hk]
    rw [ets] at het hmt
    rw [mgR, mgR] at hmt
    have hi0 := l01In_c (geti (gets E (k : Nat)) 0) 0 ((W.length : Int) - 1)
    have hi1 := l01In_c (geti (gets E (k : Nat)) 1) 0 ((W.length : Int) - 1)
    by_cases he : EIn W.length (gets E (k : Nat))
    · obtain ⟨e1, e2, e3, e4⟩ := id he
      rw [decide_eq_true (by omega)] at hi0 hi1
      have hdp : ∀ h : GOk W E, effL (idL W.length) (E.take (k + 1)) := fun h => by
        have := h.eff
        rw [← List.take_append_drop (k + 1) E, effL_app] at this
        exact this.1
      have hrw : ∀ f ∈ E.take (k + 1), EIn W.length f := fun f hf => (hrow f hf).elim id fun h => h ▸ he
      -- the order
      by_cases hord : k = 0 ∨ lx (gets E ((k - 1 : Nat) : Int)) (gets E (k : Nat))
      case neg =>
        have hz : ¬ k = 0 := fun h => hord (.inl h)
        have hp1 : gets E (((k : Nat) : Int) - 1) = gets E ((k - 1 : Nat) : Int) := by congr 1; omega
        have hm1 : gets E ((k - 1 : Nat) : Int) ∈ E.take k := by
          rw [← gets_eq (by omega)]
          exact List.mem_take_iff_getElem.2 ⟨k - 1, by omega, rfl⟩
        have hcm := l01Less_c (gets E ((k - 1 : Nat) : Int)) (gets E (k : Nat)) (k1 _ hm1).1 e1
        have hlf : less2 (gets E ((k - 1 : Nat) : Int)) (gets E (k : Nat)) = false := by
          rw [Bool.eq_false_iff]; exact fun h => hord (.inr ((lessLx _ _).1 h))
        rw [hlf, ← hp1] at hcm
        have hno : gok W E = false := gok_f fun h => hord (hsn.1 (pw_take h.srt (k + 1))).2
        generalize mgR (idL W.length) (E.take k) = L at *
        repeat' (first | (apply AOps.nil; try simp only [List.nil_append, List.cons_append, List.set_cons_zero, List.set_cons_succ, List.length_cons, List.length_nil, Nat.reduceAdd, AV.sh, AV.sh1, AV.sh0, AO.sh, List.map_cons, List.map_nil, Nat.zero_add, Nat.add_zero, setAll]) | (apply w_move; exact rfl; exact rfl) | (apply w_assign; exact rfl; exact rfl) | apply AWp.seq | apply AWp.region | ((apply AWp.condP; exact rfl) <;> intro h) | apply AWp.block | apply AWp.ret | apply AWp.exit | apply AWp.skip | (apply w_len; exact rfl; exact rfl; first | exact .ints _ | exact .intss _ | exact .sli rfl | exact .sls rfl | exact .slr rfl | exact .orow rfl | exact .nil) | omega | ((first | apply w_lss | apply w_idx | apply w_ld | apply w_fa); iterate 3 exact rfl) | ((first | apply w_idxs | apply w_lds); iterate 3 exact rfl) | (apply w_ldb; iterate 5 exact rfl))
        refine AWp.regionQ (by kernel_rfl) (by kernel_rfl) ?_
        repeat' (first | (apply AOps.nil; try simp only [List.nil_append, List.cons_append, List.set_cons_zero, List.set_cons_succ, List.length_cons, List.length_nil, Nat.reduceAdd, AV.sh, AV.sh1, AV.sh0, AO.sh, List.map_cons, List.map_nil, Nat.zero_add, Nat.add_zero, setAll]) | ((apply AOps.splitP; exact rfl; exact rfl) <;> intro h) | (apply w_move; exact rfl; exact rfl) | (apply w_assign; exact rfl; exact rfl) | apply AWp.seq | apply AWp.region | (apply AWp.condT; exact rfl) | (apply AWp.condF; exact rfl) | apply AWp.ret | apply AWp.skip | (apply w_skip; exact rfl) | (apply w_pickT; exact rfl; exact rfl; exact rfl) | (apply w_pickF; exact rfl; exact rfl; exact rfl) | (apply w_len; exact rfl; exact rfl; first | exact .ints _ | exact .intss _ | exact .sli rfl | exact .sls rfl | exact .slr rfl | exact .orow rfl | exact .nil) | (apply w_call (hi0); exact rfl; exact rfl; focus ((repeat (first | exact im_nil | refine im_cons rfl (.val _) ?_)); done)) | (apply w_call (hi1); exact rfl; exact rfl; focus ((repeat (first | exact im_nil | refine im_cons rfl (.val _) ?_)); done)) | (apply w_call (hcm); exact rfl; exact rfl; focus ((repeat (first | exact im_nil | refine im_cons rfl (.ints _) ?_)); done)) | omega | ((first | apply w_gtr | apply w_geq | apply w_neq | apply w_sub | apply w_idx | apply w_ld | apply w_fa); iterate 3 exact rfl) | ((first | apply w_idxs | apply w_lds); iterate 3 exact rfl) | ((apply w_not); iterate 2 exact rfl) | (apply w_ldb; iterate 5 exact rfl) | (apply inI_of <;> omega))
        all_goals try (exfalso; omega)
        all_goals try exact .bool Try.results23 rfl hno.symm
      have hpw := hsn.2 ⟨k2, hord⟩
      have hb0 := hmr _ (geti_mem (xs := mgR (idL W.length) (E.take k)) (i := geti (gets E (k : Nat)) 0) e2 (by omega))
      have hb1 := hmr _ (geti_mem (xs := mgR (idL W.length) (E.take k)) (i := geti (gets E (k : Nat)) 1) (by omega) (by omega))
      have hcm : k = 0 ∨ AFnV Try.prog 40 [.ints (gets E (((k : Nat) : Int) - 1)), .ints (gets E (k : Nat))] (.bool true) := by
        by_cases hz : k = 0
        · exact .inl hz
        · right
          have hp1 : gets E (((k : Nat) : Int) - 1) = gets E ((k - 1 : Nat) : Int) := by congr 1; omega
          have hm1 : gets E ((k - 1 : Nat) : Int) ∈ E.take k := by
            rw [← gets_eq (by omega)]
            exact List.mem_take_iff_getElem.2 ⟨k - 1, by omega, rfl⟩
          have hcm := l01Less_c (gets E ((k - 1 : Nat) : Int)) (gets E (k : Nat)) (k1 _ hm1).1 e1
          rw [(lessLx _ _).2 (hord.resolve_left hz), ← hp1] at hcm
          exact hcm
      by_cases hab : geti (mgR (idL W.length) (E.take k)) (geti (gets E (k : Nat)) 0) = geti (mgR (idL W.length) (E.take k)) (geti (gets E (k : Nat)) 1)
      · have hno : gok W E = false := gok_f fun h => by
          have := ((het).1 (hdp h)).2
          rw [effL] at this
          exact this.1 hab
        generalize mgR (idL W.length) (E.take k) = L at *
        repeat' (first | (apply AOps.nil; try simp only [List.nil_append, List.cons_append, List.set_cons_zero, List.set_cons_succ, List.length_cons, List.length_nil, Nat.reduceAdd, AV.sh, AV.sh1, AV.sh0, AO.sh, List.map_cons, List.map_nil, Nat.zero_add, Nat.add_zero, setAll]) | (apply w_move; exact rfl; exact rfl) | (apply w_assign; exact rfl; exact rfl) | apply AWp.seq | apply AWp.region | ((apply AWp.condP; exact rfl) <;> intro h) | apply AWp.block | apply AWp.ret | apply AWp.exit | apply AWp.skip | (apply w_len; exact rfl; exact rfl; first | exact .ints _ | exact .intss _ | exact .sli rfl | exact .sls rfl | exact .slr rfl | exact .orow rfl | exact .nil) | omega | ((first | apply w_lss | apply w_idx | apply w_ld | apply w_fa); iterate 3 exact rfl) | ((first | apply w_idxs | apply w_lds); iterate 3 exact rfl) | (apply w_ldb; iterate 5 exact rfl))
        refine AWp.regionG [] (by kernel_rfl) (envC := ⟨133, [(1, .optr 0 0), (3, .i W.length), (5, .own 1), (7, .i k), (8, .ints (gets E (k : Nat))), (101, .b false)]⟩) (osC := [.bx 29 [.ints W, .intss E], .sli 2 L]) rfl rfl ?_ ?_
        · rcases hcm with hz | hcm
          · subst hz
            repeat' (first | (apply AOps.nil; try simp only [List.nil_append, List.cons_append, List.set_cons_zero, List.set_cons_succ, List.length_cons, List.length_nil, Nat.reduceAdd, AV.sh, AV.sh1, AV.sh0, AO.sh, List.map_cons, List.map_nil, Nat.zero_add, Nat.add_zero, setAll]) | ((apply AOps.splitP; exact rfl; exact rfl) <;> intro h) | (apply w_move; exact rfl; exact rfl) | (apply w_skip; exact rfl) | (apply w_pickT; exact rfl; exact rfl; exact rfl) | (apply w_pickF; exact rfl; exact rfl; exact rfl) | (apply w_len; exact rfl; exact rfl; first | exact .ints _ | exact .intss _ | exact .sli rfl | exact .sls rfl | exact .slr rfl | exact .orow rfl | exact .nil) | apply AllOfG.nil | (apply AllOfG.consS; exact rfl; exact rfl) | (apply AAnyG.takeW; exact rfl; exact rfl; kernel_rfl; kernel_rfl) | (apply AAnyG.takeL; exact rfl; exact rfl; kernel_rfl) | (apply AAnyG.all; exact rfl) | (apply AAnyG.done; exact rfl) | (apply w_call (hi0); exact rfl; exact rfl; focus ((repeat (first | exact im_nil | refine im_cons rfl (.val _) ?_)); done)) | (apply w_call (hi1); exact rfl; exact rfl; focus ((repeat (first | exact im_nil | refine im_cons rfl (.val _) ?_)); done)) | omega | ((first | apply w_gtr | apply w_geq | apply w_neq | apply w_sub | apply w_idx | apply w_ld); iterate 3 exact rfl) | ((apply w_not); iterate 2 exact rfl) | (apply inI_of <;> omega))
            all_goals try (exfalso; omega)
            all_goals (apply Or.inl; refine ⟨lee rfl ?_, ?_, rfl, rfl⟩; (focus ((repeat (first | exact le_nil | refine le_eq rfl rfl ?_)); done)); (focus ((repeat (first | exact lo_nil | refine lo_eq rfl ?_)); done)))
          · repeat' (first | (apply AOps.nil; try simp only [List.nil_append, List.cons_append, List.set_cons_zero, List.set_cons_succ, List.length_cons, List.length_nil, Nat.reduceAdd, AV.sh, AV.sh1, AV.sh0, AO.sh, List.map_cons, List.map_nil, Nat.zero_add, Nat.add_zero, setAll]) | ((apply AOps.splitP; exact rfl; exact rfl) <;> intro h) | (apply w_move; exact rfl; exact rfl) | (apply w_skip; exact rfl) | (apply w_pickT; exact rfl; exact rfl; exact rfl) | (apply w_pickF; exact rfl; exact rfl; exact rfl) | (apply w_len; exact rfl; exact rfl; first | exact .ints _ | exact .intss _ | exact .sli rfl | exact .sls rfl | exact .slr rfl | exact .orow rfl | exact .nil) | apply AllOfG.nil | (apply AllOfG.consS; exact rfl; exact rfl) | (apply AAnyG.takeW; exact rfl; exact rfl; kernel_rfl; kernel_rfl) | (apply AAnyG.takeL; exact rfl; exact rfl; kernel_rfl) | (apply AAnyG.all; exact rfl) | (apply AAnyG.done; exact rfl) | (apply w_call (hi0); exact rfl; exact rfl; focus ((repeat (first | exact im_nil | refine im_cons rfl (.val _) ?_)); done)) | (apply w_call (hi1); exact rfl; exact rfl; focus ((repeat (first | exact im_nil | refine im_cons rfl (.val _) ?_)); done)) | (apply w_call (hcm); exact rfl; exact rfl; focus ((repeat (first | exact im_nil | refine im_cons rfl (.ints _) ?_)); done)) | omega | ((first | apply w_gtr | apply w_geq | apply w_neq | apply w_sub | apply w_idx | apply w_ld | apply w_fa); iterate 3 exact rfl) | ((first | apply w_idxs | apply w_lds); iterate 3 exact rfl) | ((apply w_not); iterate 2 exact rfl) | (apply w_ldb; iterate 5 exact rfl) | (apply inI_of <;> omega))
            all_goals try (exfalso; omega)
            all_goals (apply Or.inl; refine ⟨lee rfl ?_, ?_, rfl, rfl⟩; (focus ((repeat (first | exact le_nil | refine le_eq rfl rfl ?_)); done)); (focus ((repeat (first | exact lo_nil | refine lo_eq rfl ?_)); done)))
        clear hcm
        generalize hev : gets E (k : Nat) = e at *
        obtain ⟨a, ea⟩ : ∃ a, a = geti L (geti e 0) := ⟨_, rfl⟩
        obtain ⟨b, eb⟩ : ∃ b, b = geti L (geti e 1) := ⟨_, rfl⟩
        repeat' (first | apply AWp.seq | (apply AWp.condF; exact rfl) | apply AWp.skip)
        refine AWp.regionG [] (by kernel_rfl) (envC := ⟨133, [(1, .optr 0 0), (3, .i W.length), (5, .own 1), (7, .i k), (9, .i a), (10, .i b)]⟩) (osC := [.bx 29 [.ints W, .intss E], .sli 2 L]) rfl rfl ?_ ?_
        · rw [ea, eb]
          repeat' (first | (apply AOps.nil; try simp only [List.nil_append, List.cons_append, List.set_cons_zero, List.set_cons_succ, List.length_cons, List.length_nil, Nat.reduceAdd, AV.sh, AV.sh1, AV.sh0, AO.sh, List.map_cons, List.map_nil, Nat.zero_add, Nat.add_zero, setAll]) | (apply w_move; exact rfl; exact rfl) | (apply w_assign; exact rfl; exact rfl) | (apply AAnyG.takeW; exact rfl; exact rfl; kernel_rfl; kernel_rfl) | (apply AAnyG.takeL; exact rfl; exact rfl; kernel_rfl) | (apply AAnyG.done; exact rfl) | omega | ((first | apply w_idx | apply w_ld); iterate 3 exact rfl) | (apply w_idxo; exact rfl; exact rfl; (exact .sli rfl); exact rfl) | (apply w_ldo; iterate 4 exact rfl))
          all_goals (apply Or.inl; refine ⟨lee rfl ?_, ?_, rfl, rfl⟩; (focus ((repeat (first | exact le_nil | refine le_eq rfl rfl ?_)); done)); (focus ((repeat (first | exact lo_nil | refine lo_eq rfl ?_)); done)))
        rw [← ea, ← eb] at hab hmt
        rw [← ea] at hb0
        rw [← eb] at hb1
        clear ea eb
        repeat' (first | (apply AOps.nil; try simp only [List.nil_append, List.cons_append, List.set_cons_zero, List.set_cons_succ, List.length_cons, List.length_nil, Nat.reduceAdd, AV.sh, AV.sh1, AV.sh0, AO.sh, List.map_cons, List.map_nil, Nat.zero_add, Nat.add_zero, setAll]) | (apply w_move; exact rfl; exact rfl) | (apply w_assign; exact rfl; exact rfl) | apply AWp.seq | apply AWp.region | ((apply AWp.condP; exact rfl) <;> intro h) | apply AWp.block | apply AWp.ret | apply AWp.skip | omega | ((apply w_eql); iterate 3 exact rfl))
        all_goals try (exfalso; omega)
        all_goals try exact .bool Try.results23 rfl hno.symm
      · have hef : effL (idL W.length) (E.take (k + 1)) := het.2 ⟨k3, by rw [effL]; exact ⟨hab, trivial⟩⟩
        generalize mgR (idL W.length) (E.take k) = L at *
        repeat' (first | (apply AOps.nil; try simp only [List.nil_append, List.cons_append, List.set_cons_zero, List.set_cons_succ, List.length_cons, List.length_nil, Nat.reduceAdd, AV.sh, AV.sh1, AV.sh0, AO.sh, List.map_cons, List.map_nil, Nat.zero_add, Nat.add_zero, setAll]) | (apply w_move; exact rfl; exact rfl) | (apply w_assign; exact rfl; exact rfl) | apply AWp.seq | apply AWp.region | ((apply AWp.condP; exact rfl) <;> intro h) | apply AWp.block | apply AWp.ret | apply AWp.exit | apply AWp.skip | (apply w_len; exact rfl; exact rfl; first | exact .ints _ | exact .intss _ | exact .sli rfl | exact .sls rfl | exact .slr rfl | exact .orow rfl | exact .nil) | omega | ((first | apply w_lss | apply w_idx | apply w_ld | apply w_fa); iterate 3 exact rfl) | ((first | apply w_idxs | apply w_lds); iterate 3 exact rfl) | (apply w_ldb; iterate 5 exact rfl))
        refine AWp.regionG [] (by kernel_rfl) (envC := ⟨133, [(1, .optr 0 0), (3, .i W.length), (5, .own 1), (7, .i k), (8, .ints (gets E (k : Nat))), (101, .b false)]⟩) (osC := [.bx 29 [.ints W, .intss E], .sli 2 L]) rfl rfl ?_ ?_
        · rcases hcm with hz | hcm
          · subst hz
            repeat' (first | (apply AOps.nil; try simp only [List.nil_append, List.cons_append, List.set_cons_zero, List.set_cons_succ, List.length_cons, List.length_nil, Nat.reduceAdd, AV.sh, AV.sh1, AV.sh0, AO.sh, List.map_cons, List.map_nil, Nat.zero_add, Nat.add_zero, setAll]) | ((apply AOps.splitP; exact rfl; exact rfl) <;> intro h) | (apply w_move; exact rfl; exact rfl) | (apply w_skip; exact rfl) | (apply w_pickT; exact rfl; exact rfl; exact rfl) | (apply w_pickF; exact rfl; exact rfl; exact rfl) | (apply w_len; exact rfl; exact rfl; first | exact .ints _ | exact .intss _ | exact .sli rfl | exact .sls rfl | exact .slr rfl | exact .orow rfl | exact .nil) | apply AllOfG.nil | (apply AllOfG.consS; exact rfl; exact rfl) | (apply AAnyG.takeW; exact rfl; exact rfl; kernel_rfl; kernel_rfl) | (apply AAnyG.takeL; exact rfl; exact rfl; kernel_rfl) | (apply AAnyG.all; exact rfl) | (apply AAnyG.done; exact rfl) | (apply w_call (hi0); exact rfl; exact rfl; focus ((repeat (first | exact im_nil | refine im_cons rfl (.val _) ?_)); done)) | (apply w_call (hi1); exact rfl; exact rfl; focus ((repeat (first | exact im_nil | refine im_cons rfl (.val _) ?_)); done)) | omega | ((first | apply w_gtr | apply w_geq | apply w_neq | apply w_sub | apply w_idx | apply w_ld); iterate 3 exact rfl) | ((apply w_not); iterate 2 exact rfl) | (apply inI_of <;> omega))
            all_goals try (exfalso; omega)
            all_goals (apply Or.inl; refine ⟨lee rfl ?_, ?_, rfl, rfl⟩; (focus ((repeat (first | exact le_nil | refine le_eq rfl rfl ?_)); done)); (focus ((repeat (first | exact lo_nil | refine lo_eq rfl ?_)); done)))
          · repeat' (first | (apply AOps.nil; try simp only [List.nil_append, List.cons_append, List.set_cons_zero, List.set_cons_succ, List.length_cons, List.length_nil, Nat.reduceAdd, AV.sh, AV.sh1, AV.sh0, AO.sh, List.map_cons, List.map_nil, Nat.zero_add, Nat.add_zero, setAll]) | ((apply AOps.splitP; exact rfl; exact rfl) <;> intro h) | (apply w_move; exact rfl; exact rfl) | (apply w_skip; exact rfl) | (apply w_pickT; exact rfl; exact rfl; exact rfl) | (apply w_pickF; exact rfl; exact rfl; exact rfl) | (apply w_len; exact rfl; exact rfl; first | exact .ints _ | exact .intss _ | exact .sli rfl | exact .sls rfl | exact .slr rfl | exact .orow rfl | exact .nil) | apply AllOfG.nil | (apply AllOfG.consS; exact rfl; exact rfl) | (apply AAnyG.takeW; exact rfl; exact rfl; kernel_rfl; kernel_rfl) | (apply AAnyG.takeL; exact rfl; exact rfl; kernel_rfl) | (apply AAnyG.all; exact rfl) | (apply AAnyG.done; exact rfl) | (apply w_call (hi0); exact rfl; exact rfl; focus ((repeat (first | exact im_nil | refine im_cons rfl (.val _) ?_)); done)) | (apply w_call (hi1); exact rfl; exact rfl; focus ((repeat (first | exact im_nil | refine im_cons rfl (.val _) ?_)); done)) | (apply w_call (hcm); exact rfl; exact rfl; focus ((repeat (first | exact im_nil | refine im_cons rfl (.ints _) ?_)); done)) | omega | ((first | apply w_gtr | apply w_geq | apply w_neq | apply w_sub | apply w_idx | apply w_ld | apply w_fa); iterate 3 exact rfl) | ((first | apply w_idxs | apply w_lds); iterate 3 exact rfl) | ((apply w_not); iterate 2 exact rfl) | (apply w_ldb; iterate 5 exact rfl) | (apply inI_of <;> omega))
            all_goals try (exfalso; omega)
            all_goals (apply Or.inl; refine ⟨lee rfl ?_, ?_, rfl, rfl⟩; (focus ((repeat (first | exact le_nil | refine le_eq rfl rfl ?_)); done)); (focus ((repeat (first | exact lo_nil | refine lo_eq rfl ?_)); done)))
        clear hcm
        generalize hev : gets E (k : Nat) = e at *
        obtain ⟨a, ea⟩ : ∃ a, a = geti L (geti e 0) := ⟨_, rfl⟩
        obtain ⟨b, eb⟩ : ∃ b, b = geti L (geti e 1) := ⟨_, rfl⟩
        repeat' (first | apply AWp.seq | (apply AWp.condF; exact rfl) | apply AWp.skip)
        refine AWp.regionG [] (by kernel_rfl) (envC := ⟨133, [(1, .optr 0 0), (3, .i W.length), (5, .own 1), (7, .i k), (9, .i a), (10, .i b)]⟩) (osC := [.bx 29 [.ints W, .intss E], .sli 2 L]) rfl rfl ?_ ?_
        · rw [ea, eb]
          repeat' (first | (apply AOps.nil; try simp only [List.nil_append, List.cons_append, List.set_cons_zero, List.set_cons_succ, List.length_cons, List.length_nil, Nat.reduceAdd, AV.sh, AV.sh1, AV.sh0, AO.sh, List.map_cons, List.map_nil, Nat.zero_add, Nat.add_zero, setAll]) | (apply w_move; exact rfl; exact rfl) | (apply w_assign; exact rfl; exact rfl) | (apply AAnyG.takeW; exact rfl; exact rfl; kernel_rfl; kernel_rfl) | (apply AAnyG.takeL; exact rfl; exact rfl; kernel_rfl) | (apply AAnyG.done; exact rfl) | omega | ((first | apply w_idx | apply w_ld); iterate 3 exact rfl) | (apply w_idxo; exact rfl; exact rfl; (exact .sli rfl); exact rfl) | (apply w_ldo; iterate 4 exact rfl))
          all_goals (apply Or.inl; refine ⟨lee rfl ?_, ?_, rfl, rfl⟩; (focus ((repeat (first | exact le_nil | refine le_eq rfl rfl ?_)); done)); (focus ((repeat (first | exact lo_nil | refine lo_eq rfl ?_)); done)))
        rw [← ea, ← eb] at hab hmt
        rw [← ea] at hb0
        rw [← eb] at hb1
        clear ea eb
        repeat' (first | (apply AOps.nil; try simp only [List.nil_append, List.cons_append, List.set_cons_zero, List.set_cons_succ, List.length_cons, List.length_nil, Nat.reduceAdd, AV.sh, AV.sh1, AV.sh0, AO.sh, List.map_cons, List.map_nil, Nat.zero_add, Nat.add_zero, setAll]) | (apply w_move; exact rfl; exact rfl) | (apply w_assign; exact rfl; exact rfl) | apply AWp.seq | apply AWp.region | ((apply AWp.condP; exact rfl) <;> intro h) | apply AWp.block | apply AWp.ret | apply AWp.skip | omega | ((apply w_eql); iterate 3 exact rfl))
        all_goals try (exfalso; omega)
        refine AWp.loop (ι := Nat) (fun j => ⟨133, [(1, .optr 0 0), (3, .i W.length), (5, .own 1), (7, .i k), (9, .i a), (10, .i b), (11, .i j)]⟩) (fun j => [.bx 29 [.ints W, .intss E], .sli 2 (mgT L a b j)]) (fun j => j ≤ W.length) (fun j => W.length - j) 0 (by omega) ⟨lee rfl (by (repeat (first | exact le_nil | refine le_eq rfl rfl ?_))), by (repeat (first | exact lo_nil | refine lo_eq rfl ?_)), rfl, rfl⟩ ?_
        intro j j0
        have ml := mgT_len L a b j
        by_cases hj : j < W.length
        · have m1 := mgT_at (L := L) (a := a) (b := b) (i := j) (by omega)
          have m2 := mgT_eq (L := L) (a := a) (b := b) (i := j) (by omega)
          rw [← m1] at m2
          generalize mgT L a b j = M at *
          have ej : geti M ((((j : Nat) : Int)).toNat : Nat) = geti M (j : Nat) := by rw [Int.toNat_natCast]
          by_cases hc : geti M (j : Nat) = b
          · rw [if_pos hc] at m2
            have hc' := hc
            rw [← ej] at hc'
            repeat' (first | (apply AOps.nil; try simp only [List.nil_append, List.cons_append, List.set_cons_zero, List.set_cons_succ, List.length_cons, List.length_nil, Nat.reduceAdd, AV.sh, AV.sh1, AV.sh0, AO.sh, List.map_cons, List.map_nil, Nat.zero_add, Nat.add_zero, setAll]) | (apply w_move; exact rfl; exact rfl) | (apply w_assign; exact rfl; exact rfl) | apply AWp.seq | apply AWp.region | ((apply AWp.condP; exact rfl) <;> intro h) | apply AWp.block | apply AWp.exit | apply AWp.skip | (apply w_len; exact rfl; exact rfl; first | exact .ints _ | exact .intss _ | exact .sli rfl | exact .sls rfl | exact .slr rfl | exact .orow rfl | exact .nil) | omega | ((first | apply w_lss | apply w_eql | apply w_add | apply w_idx | apply w_ld); iterate 3 exact rfl) | (apply w_idxo; exact rfl; exact rfl; (exact .sli rfl); exact rfl) | (apply w_ldo; iterate 4 exact rfl) | (apply w_sti; exact rfl; exact rfl; rotate_left 1; exact rfl; rotate_left 2) | (apply inI_of <;> omega))
            all_goals try (exfalso; first | exact absurd hc' (by assumption) | exact absurd (by assumption) hc')
            exact ⟨j + 1, by omega, by omega, by rw [m2]; exact ⟨lee rfl (by (repeat (first | exact le_nil | refine le_eq rfl rfl ?_))), by (repeat (first | exact lo_nil | refine lo_eq rfl ?_)), rfl, rfl⟩⟩
          · rw [if_neg hc, set_same] at m2
            have hc' := hc
            rw [← ej] at hc'
            repeat' (first | (apply AOps.nil; try simp only [List.nil_append, List.cons_append, List.set_cons_zero, List.set_cons_succ, List.length_cons, List.length_nil, Nat.reduceAdd, AV.sh, AV.sh1, AV.sh0, AO.sh, List.map_cons, List.map_nil, Nat.zero_add, Nat.add_zero, setAll]) | (apply w_move; exact rfl; exact rfl) | (apply w_assign; exact rfl; exact rfl) | apply AWp.seq | apply AWp.region | ((apply AWp.condP; exact rfl) <;> intro h) | apply AWp.block | apply AWp.exit | apply AWp.skip | (apply w_len; exact rfl; exact rfl; first | exact .ints _ | exact .intss _ | exact .sli rfl | exact .sls rfl | exact .slr rfl | exact .orow rfl | exact .nil) | omega | ((first | apply w_lss | apply w_eql | apply w_add | apply w_idx | apply w_ld); iterate 3 exact rfl) | (apply w_idxo; exact rfl; exact rfl; (exact .sli rfl); exact rfl) | (apply w_ldo; iterate 4 exact rfl) | (apply inI_of <;> omega))
            all_goals try (exfalso; first | exact absurd hc' (by assumption) | exact absurd (by assumption) hc')
            exact ⟨j + 1, by omega, by omega, by rw [m2]; exact ⟨lee rfl (by (repeat (first | exact le_nil | refine le_eq rfl rfl ?_))), by (repeat (first | exact lo_nil | refine lo_eq rfl ?_)), rfl, rfl⟩⟩
        · have ej : j = L.length := by omega
          have hml2 : (mgR (idL W.length) (E.take (k + 1))).length = W.length := by rw [mgR_len, idL_len]
          rw [ej, mgT_all, ← hmt]
          repeat' (first | (apply AOps.nil; try simp only [List.nil_append, List.cons_append, List.set_cons_zero, List.set_cons_succ, List.length_cons, List.length_nil, Nat.reduceAdd, AV.sh, AV.sh1, AV.sh0, AO.sh, List.map_cons, List.map_nil, Nat.zero_add, Nat.add_zero, setAll]) | (apply w_move; exact rfl; exact rfl) | (apply w_assign; exact rfl; exact rfl) | apply AWp.seq | apply AWp.region | ((apply AWp.condP; exact rfl) <;> intro h) | apply AWp.block | apply AWp.exit | apply AWp.skip | (apply w_len; exact rfl; exact rfl; first | exact .ints _ | exact .intss _ | exact .sli rfl | exact .sls rfl | exact .slr rfl | exact .orow rfl | exact .nil) | omega | ((first | apply w_lss | apply w_add); iterate 3 exact rfl) | (apply inI_of <;> omega))
          exact ⟨k + 1, ⟨by omega, hrw, hpw, hef⟩, by omega, ⟨lee rfl (by (repeat (first | exact le_nil | refine le_eq rfl rfl ?_))), by (repeat (first | exact lo_nil | refine lo_eq rfl ?_)), rfl, rfl⟩⟩
    · have hno : gok W E = false := gok_f fun h => he (h.row _ hmem)
      unfold EIn at he
      generalize mgR (idL W.length) (E.take k) = L at *
      repeat' (first | (apply AOps.nil; try simp only [List.nil_append, List.cons_append, List.set_cons_zero, List.set_cons_succ, List.length_cons, List.length_nil, Nat.reduceAdd, AV.sh, AV.sh1, AV.sh0, AO.sh, List.map_cons, List.map_nil, Nat.zero_add, Nat.add_zero, setAll]) | (apply w_move; exact rfl; exact rfl) | (apply w_assign; exact rfl; exact rfl) | apply AWp.seq | apply AWp.region | ((apply AWp.condP; exact rfl) <;> intro h) | apply AWp.block | apply AWp.ret | apply AWp.exit | apply AWp.skip | (apply w_len; exact rfl; exact rfl; first | exact .ints _ | exact .intss _ | exact .sli rfl | exact .sls rfl | exact .slr rfl | exact .orow rfl | exact .nil) | omega | ((first | apply w_lss | apply w_idx | apply w_ld | apply w_fa); iterate 3 exact rfl) | ((first | apply w_idxs | apply w_lds); iterate 3 exact rfl) | (apply w_ldb; iterate 5 exact rfl))
      refine AWp.regionQ (by kernel_rfl) (by kernel_rfl) ?_
      repeat' (first | (apply AOps.nil; try simp only [List.nil_append, List.cons_append, List.set_cons_zero, List.set_cons_succ, List.length_cons, List.length_nil, Nat.reduceAdd, AV.sh, AV.sh1, AV.sh0, AO.sh, List.map_cons, List.map_nil, Nat.zero_add, Nat.add_zero, setAll]) | ((apply AOps.splitP; exact rfl; exact rfl) <;> intro h) | ((apply AOps.splitN; exact rfl; exact rfl) <;> intro h) | (apply w_move; exact rfl; exact rfl) | (apply w_assign; exact rfl; exact rfl) | apply AWp.seq | apply AWp.region | (apply AWp.condT; exact rfl) | apply AWp.ret | (apply w_skip; exact rfl) | (apply w_pickT; exact rfl; exact rfl; exact rfl) | (apply w_pickF; exact rfl; exact rfl; exact rfl) | (apply w_len; exact rfl; exact rfl; first | exact .ints _ | exact .intss _ | exact .sli rfl | exact .sls rfl | exact .slr rfl | exact .orow rfl | exact .nil) | (apply w_call (hi0); exact rfl; exact rfl; focus ((repeat (first | exact im_nil | refine im_cons rfl (.val _) ?_)); done)) | (apply w_call (hi1); exact rfl; exact rfl; focus ((repeat (first | exact im_nil | refine im_cons rfl (.val _) ?_)); done)) | omega | ((first | apply w_geq | apply w_neq | apply w_sub | apply w_idx | apply w_ld); iterate 3 exact rfl) | ((apply w_not); iterate 2 exact rfl) | (apply inI_of <;> omega))
      all_goals try (exfalso; omega)
      all_goals try exact .bool Try.results23 rfl hno.symm
  · have ek : k = E.length := by omega
    subst ek
    rw [List.take_length] at k1 k2 k3 ⊢
    have hyes : gok W E = true := gok_iff.2 ⟨⟨c1, c2⟩, i1, k1, k2, k3⟩
    repeat' (first | (apply AOps.nil; try simp only [List.nil_append, List.cons_append, List.set_cons_zero, List.set_cons_succ, List.length_cons, List.length_nil, Nat.reduceAdd, AV.sh, AV.sh1, AV.sh0, AO.sh, List.map_cons, List.map_nil, Nat.zero_add, Nat.add_zero, setAll]) | (apply w_move; exact rfl; exact rfl) | (apply w_assign; exact rfl; exact rfl) | apply AWp.seq | apply AWp.region | ((apply AWp.condP; exact rfl) <;> intro h) | apply AWp.block | apply AWp.ret | apply AWp.exit | apply AWp.skip | (apply w_len; exact rfl; exact rfl; first | exact .ints _ | exact .intss _ | exact .sli rfl | exact .sls rfl | exact .slr rfl | exact .orow rfl | exact .nil) | omega | ((first | apply w_lss | apply w_ld | apply w_fa); iterate 3 exact rfl) | (apply w_ldb; iterate 5 exact rfl))
    all_goals exact .bool Try.results23 rfl hyes.symm
end Go.Proofs.Ytlkhcelodcneiaa
/-
  A visit of the search in depth, walked. Condition: a forest of at most 40 vertices.
-/
namespace Go.Proofs.Ytlkhcelodcneiaa
open Go Go.RowKit
attribute [local irreducible] AWp AOps ResIs Ret1 QOp LOp COp AFnV AFn Imms LeE LeO
set_option maxHeartbeats 1000000
set_option linter.unusedSimpArgs false
set_option linter.unusedVariables false

theorem sn_get (s : WS) (c : Int) : s.sn c = s.s.getD c.toNat false := rfl
theorem lpF_seen {vis : Int → WS → WS} {c : Int} {cs : List Int} {s : WS} {p r : Int} (h : s.sn c = true) : lpF vis (c :: cs) s p r = lpF vis cs s p r := by rw [lpF, if_pos h]
theorem lpF_new {vis : Int → WS → WS} {c : Int} {cs : List Int} {s : WS} {p r : Int} (h : s.sn c = false) (hok : okS p r (geti (vis c s).f c) (geti (vis c s).g c) = true) : lpF vis (c :: cs) s p r = lpF vis cs (vis c s) (p * geti (vis c s).f c) (r * geti (vis c s).f c - p * geti (vis c s).g c) := by
  rw [lpF, if_neg (by rw [h]; simp), if_pos hok]
theorem lpF_big {vis : Int → WS → WS} {c : Int} {cs : List Int} {s : WS} {p r : Int} (h : s.sn c = false) (hok : ¬ okS p r (geti (vis c s).f c) (geti (vis c s).g c) = true) : lpF vis (c :: cs) s p r = lpF vis cs (vis c s).big 0 0 := by
  rw [lpF, if_neg (by rw [h]; simp), if_neg hok]
theorem drop_geti {xs : List Int} {i : Nat} (h : i < xs.length) : xs.drop i = geti xs (i : Nat) :: xs.drop (i + 1) := by
  rw [List.drop_eq_getElem_cons h]; simp [geti, List.getD_eq_getElem?_getD, List.getElem?_eq_getElem h]
theorem geti_memo {xs : List Int} {v : Int} {n : Nat} (hl : xs.length = n) (h : ∀ x ∈ xs, inM x) (h0 : 0 ≤ v ∧ v < n) : inM (geti xs v) := h _ (geti_mem h0.1 (by omega))

set_option maxHeartbeats 16000000 in
theorem visit_c (W : List Int) (E : List (List Int)) (h : GrF W E) : ∀ (k : Nat) (v : Int) (s : WS), WOk W.length s → s.cnt ≤ k → 0 ≤ v ∧ v < W.length → s.sn v = false →
    AFnB Try.prog 72 98 2 4 W (nbs W E) [.int .i64 v] s (visF W (nearL E) k v s) (.tuple #[])
  | 0, v, s, hs, hk, hv, hn => by have := cnt_pos hs.ls hv hn; omega
  | k + 1, v, s, hs, hk, hv, hn => by
    have ih := visit_c W E h k
    have hw := h.w v
    have hnn := h.n
    have hm := cnt_mark hs.ls hv hn
    have hF := h.fo.fst
    have hnb : gets (nbs W E) v = nearL E v := by
      obtain ⟨m, rfl⟩ := Int.eq_ofNat_of_zero_le hv.1
      have := nbs_get (W := W) (E := E) (v := m) (by omega)
      simpa [gets] using this
    have hnl : (nbs W E).length = W.length := by simp [nbs]
    have hne := near_len h v
    have hrng : ∀ i : Nat, i < (nearL E v).length → 0 ≤ geti (nearL E v) (i : Nat) ∧ geti (nearL E v) (i : Nat) < W.length := fun i hi => (hF.bnd v _ (geti_mem (by omega) (by omega))).1
    have hvo : ∀ (c : Int) (t : WS), WOk W.length t → t.cnt ≤ k → 0 ≤ c ∧ c < W.length → t.sn c = false → WOk W.length (visF W (nearL E) k c t) ∧ WLe t (visF W (nearL E) k c t) := visF_ok h.w hF k
    have okm := ok_mark hs v
    have hms : s.s.set v.toNat true = (s.mark v).s := rfl
    show AFnB _ _ _ _ _ _ _ _ _ ((lpF (visF W (nearL E) k) (nearL E v) (s.mark v) 1 (-geti W v)).1.put v (lpF (visF W (nearL E) k) (nearL E v) (s.mark v) 1 (-geti W v)).2.1 (lpF (visF W (nearL E) k) (nearL E v) (s.mark v) 1 (-geti W v)).2.2) _
    generalize hT : lpF (visF W (nearL E) k) (nearL E v) (s.mark v) 1 (-geti W v) = T
    have ls := hs.ls
    have lf := hs.lf
    have lg := hs.lg
    (refine AFnB.start Try.func72 Try.ntmps72 rfl (by kernel_rfl) fun K vW vN => ?_; simp only [wkL, Env.start, enumF, List.map_cons, List.map_nil, List.length_cons, List.length_nil, Nat.reduceAdd, Nat.reduceSub, Nat.zero_add, List.cons_append, List.nil_append])
    repeat' (first | (apply AOps.nil; try simp only [List.nil_append, List.cons_append, List.set_cons_zero, List.set_cons_succ, List.length_cons, List.length_nil, Nat.reduceAdd, AV.sh, AV.sh1, AV.sh0, AO.sh, List.map_cons, List.map_nil, Nat.zero_add, Nat.add_zero, setAll]) | (apply w_move; exact rfl; exact rfl) | apply AWp.seq | apply AWp.region | (apply w_idxb; iterate 4 exact rfl) | (apply w_stb; exact rfl; exact rfl; rotate_left 1; exact rfl; rotate_left 1) | ((apply w_nilck); iterate 2 exact rfl) | ((first | apply w_ld | apply w_fa); iterate 3 exact rfl) | omega | (apply w_ldb; iterate 5 exact rfl))
    rw [hms]
    refine AWp.regionQ (by kernel_rfl) (by kernel_rfl) ?_
    repeat' (first | (apply AOps.nil; try simp only [List.nil_append, List.cons_append, List.set_cons_zero, List.set_cons_succ, List.length_cons, List.length_nil, Nat.reduceAdd, AV.sh, AV.sh1, AV.sh0, AO.sh, List.map_cons, List.map_nil, Nat.zero_add, Nat.add_zero, setAll]) | (apply w_move; exact rfl; exact rfl) | (apply w_assign; exact rfl; exact rfl) | apply AWp.seq | apply AWp.region | apply AWp.block | (apply w_len; exact rfl; exact rfl; first | exact .ints _ | exact .intss _ | exact .sli rfl | exact .sls rfl | exact .slr rfl | exact .orow rfl | exact .nil) | (apply w_ldbi; iterate 5 exact rfl) | (apply w_ldbn; iterate 5 exact rfl) | ((first | apply w_nilck | apply w_neg); iterate 2 exact rfl) | ((first | apply w_idx | apply w_ld | apply w_fa); iterate 3 exact rfl) | omega | ((first | apply w_idxs | apply w_lds); iterate 3 exact rfl) | (apply inI_of <;> omega))
    rw [hnb, show (0 : Int) - geti W v = -geti W v by omega]
    generalize hNv : nearL E v = nv at *
    refine AWp.loop (ι := Nat × WS × Int × Int) (fun x => ⟨81, [(0, .optr 1 0), (1, .i v), (4, .i x.2.2.1), (5, .i x.2.2.2), (28, .ints nv), (29, .i nv.length), (30, .i x.1)]⟩) (fun x => [.keep 5 K, .bx 98 [.ro (roI vW W), .ro (roN vN (nbs W E)), .own 2, .own 3, .own 4, .b x.2.1.l], .sli 2 x.2.1.f, .sli 2 x.2.1.g, .slr 4 (bL x.2.1.s)])
      (fun x => x.1 ≤ nv.length ∧ lpF (visF W (nearL E) k) (nv.drop x.1) x.2.1 x.2.2.1 x.2.2.2 = T ∧ WOk W.length x.2.1 ∧ x.2.1.cnt ≤ k ∧ inM x.2.2.1 ∧ inM x.2.2.2) (fun x => nv.length - x.1) (0, s.mark v, 1, -geti W v) ⟨by simp only; omega, hT, okm, by simp only; omega, by simp only [inM]; omega, by simp only [inM]; omega⟩ ⟨lee rfl (by (repeat (first | exact le_nil | refine le_eq rfl rfl ?_))), by (repeat (first | exact lo_nil | refine lo_eq rfl ?_)), rfl, (by first | exact rfl | (simp [AO.lim, AV.lim, bL_lim]; done))⟩ ?_
    rintro ⟨i, t, p, r⟩ ⟨i0, i1, i2, i3, i4, i5⟩
    simp only at i0 i1 i2 i3 i4 i5
    have hvo' := hvo
    have lt1 := i2.ls
    have lt2 := i2.lf
    have lt3 := i2.lg
    by_cases hi : i < nv.length
    · obtain ⟨c0, c1⟩ := hrng i hi
      rw [drop_geti hi] at i1
      cases hsc : t.sn (geti nv (i : Nat)) with
      | true =>
        rw [lpF_seen hsc] at i1
        rw [sn_get] at hsc
        repeat' (first | (apply AOps.nil; try simp only [List.nil_append, List.cons_append, List.set_cons_zero, List.set_cons_succ, List.length_cons, List.length_nil, Nat.reduceAdd, AV.sh, AV.sh1, AV.sh0, AO.sh, List.map_cons, List.map_nil, Nat.zero_add, Nat.add_zero, setAll]) | (apply w_move; exact rfl; exact rfl) | (apply w_assign; exact rfl; exact rfl) | apply AWp.seq | apply AWp.region | ((apply AWp.condP; exact rfl) <;> intro h) | ((apply AWp.condB; exact rfl) <;> intro h) | apply AWp.block | apply AWp.exit | apply AWp.skip | (apply if_pos'; exact rfl) | (apply w_idxb; iterate 4 exact rfl) | (apply w_ldbl; iterate 4 exact rfl) | ((first | apply w_nilck | apply w_not); iterate 2 exact rfl) | ((first | apply w_lss | apply w_add | apply w_idx | apply w_ld | apply w_fa); iterate 3 exact rfl) | omega | (apply w_ldb; iterate 5 exact rfl) | (apply inI_of <;> omega))
        all_goals first | exact ⟨(i + 1, t, p, r), ⟨by simp only; omega, i1, i2, i3, i4, i5⟩, by simp only; omega, ⟨lee rfl (by (repeat (first | exact le_nil | refine le_eq rfl rfl ?_))), by (repeat (first | exact lo_nil | refine lo_eq rfl ?_)), rfl, (by first | exact rfl | (simp [AO.lim, AV.lim, bL_lim]; done))⟩⟩ | (exfalso; simp_all; done)
      | false =>
        obtain ⟨u1, u2⟩ := hvo (geti nv (i : Nat)) t i2 i3 ⟨c0, c1⟩ hsc
        have u3 : (visF W (nearL E) k (geti nv (i : Nat)) t).cnt ≤ k := Nat.le_trans u2.cnt i3
        have hcall := ih (geti nv (i : Nat)) t i2 i3 ⟨c0, c1⟩ hsc
        have hnew := fun ho => lpF_new (vis := visF W (nearL E) k) (cs := nv.drop (i + 1)) (p := p) (r := r) hsc ho
        have hbig := fun ho => lpF_big (vis := visF W (nearL E) k) (cs := nv.drop (i + 1)) (p := p) (r := r) hsc ho
        rw [sn_get] at hsc
        generalize visF W (nearL E) k (geti nv (i : Nat)) t = u at *
        have lu1 := u1.ls
        have lu2 := u1.lf
        have lu3 := u1.lg
        have hst := step_c W (nbs W E) u p r (geti u.f (geti nv (i : Nat))) (geti u.g (geti nv (i : Nat))) i4 i5 (geti_memo lu2 u1.bf ⟨c0, c1⟩) (geti_memo lu3 u1.bg ⟨c0, c1⟩)
        repeat' (first | (apply AOps.nil; try simp only [List.nil_append, List.cons_append, List.set_cons_zero, List.set_cons_succ, List.length_cons, List.length_nil, Nat.reduceAdd, AV.sh, AV.sh1, AV.sh0, AO.sh, List.map_cons, List.map_nil, Nat.zero_add, Nat.add_zero, setAll]) | (apply w_move; exact rfl; exact rfl) | (apply w_assign; exact rfl; exact rfl) | apply AWp.seq | apply AWp.region | ((apply AWp.condP; exact rfl) <;> intro h) | ((apply AWp.condB; exact rfl) <;> intro h) | apply AWp.block | apply AWp.exit | apply AWp.skip | (apply if_pos'; exact rfl) | (apply w_idxb; iterate 4 exact rfl) | (apply w_ldbl; iterate 4 exact rfl) | ((first | apply w_nilck | apply w_not); iterate 2 exact rfl) | ((first | apply w_lss | apply w_add | apply w_idx | apply w_ld | apply w_fa); iterate 3 exact rfl) | (apply w_callb (hcall); exact rfl; exact rfl; exact rfl; exact rfl; exact rfl; exact rfl; exact rfl; (exact rdI_ro _ _); (exact rdN_ro _ _); exact rfl; try simp only [List.nil_append, List.cons_append, List.set_cons_zero, List.set_cons_succ, List.length_cons, List.length_nil, Nat.reduceAdd, AV.sh, AV.sh1, AV.sh0, AO.sh, List.map_cons, List.map_nil, Nat.zero_add, Nat.add_zero, setAll]) | omega | (apply w_ldb; iterate 5 exact rfl) | (apply inI_of <;> omega))
        all_goals try (exfalso; simp_all; done)
        by_cases hok : okS p r (geti u.f (geti nv (i : Nat))) (geti u.g (geti nv (i : Nat))) = true
        · have hn1 := hnew hok
          rw [hn1] at i1
          have e1 : stS u p r (geti u.f (geti nv (i : Nat))) (geti u.g (geti nv (i : Nat))) = u := by unfold stS; rw [if_pos hok]
          have e2 : stV p r (geti u.f (geti nv (i : Nat))) (geti u.g (geti nv (i : Nat))) = .tuple #[.int .i64 (p * geti u.f (geti nv (i : Nat))), .int .i64 (r * geti u.f (geti nv (i : Nat)) - p * geti u.g (geti nv (i : Nat)))] := by unfold stV; rw [if_pos hok]
          rw [e1, e2] at hst
          refine AWp.regionG [] (by kernel_rfl) (envC := ⟨81, [(0, .optr 1 0), (1, .i v), (4, .i (p * geti u.f (geti nv (i : Nat)))), (5, .i (r * geti u.f (geti nv (i : Nat)) - p * geti u.g (geti nv (i : Nat)))), (28, .ints nv), (29, .i nv.length), (30, .i i)]⟩) (osC := [.keep 5 K, .bx 98 [.ro (roI vW W), .ro (roN vN (nbs W E)), .own 2, .own 3, .own 4, .b u.l], .sli 2 u.f, .sli 2 u.g, .slr 4 (bL u.s)]) rfl (by first | exact rfl | (simp [AO.lim, AV.lim, bL_lim]; done)) ?_ ?_
          · repeat' (first | (apply AOps.nil; try simp only [List.nil_append, List.cons_append, List.set_cons_zero, List.set_cons_succ, List.length_cons, List.length_nil, Nat.reduceAdd, AV.sh, AV.sh1, AV.sh0, AO.sh, List.map_cons, List.map_nil, Nat.zero_add, Nat.add_zero, setAll]) | (apply w_move; exact rfl; exact rfl) | (apply w_assign; exact rfl; exact rfl) | apply AllOfG.nil | (apply AllOfG.consQ; exact rfl; exact rfl) | (apply AllOfG.consS; exact rfl; exact rfl) | (apply AAnyG.takeW; exact rfl; exact rfl; kernel_rfl; kernel_rfl) | (apply AAnyG.takeL; exact rfl; exact rfl; kernel_rfl) | (apply AAnyG.all; exact rfl) | (apply AAnyG.done; exact rfl) | ((apply w_nilck); iterate 2 exact rfl) | ((first | apply w_idx | apply w_ld | apply w_fa | apply w_extv); iterate 3 exact rfl) | (apply w_callb (hst); exact rfl; exact rfl; exact rfl; exact rfl; exact rfl; exact rfl; exact rfl; (exact rdI_ro _ _); (exact rdN_ro _ _); exact rfl; try simp only [List.nil_append, List.cons_append, List.set_cons_zero, List.set_cons_succ, List.length_cons, List.length_nil, Nat.reduceAdd, AV.sh, AV.sh1, AV.sh0, AO.sh, List.map_cons, List.map_nil, Nat.zero_add, Nat.add_zero, setAll]) | omega | (apply w_idxo; exact rfl; exact rfl; (exact .sli rfl); exact rfl) | (apply w_ldo; iterate 4 exact rfl) | (apply w_ldb; iterate 5 exact rfl))
            all_goals (apply Or.inl; refine ⟨lee rfl ?_, ?_, rfl, (by first | exact rfl | (simp [AO.lim, AV.lim, bL_lim]; done))⟩; (focus ((repeat (first | exact le_nil | refine le_eq rfl rfl ?_)); done)); (focus ((repeat (first | exact lo_nil | refine lo_eq rfl ?_)); done)))
          repeat' (first | (apply AOps.nil; try simp only [List.nil_append, List.cons_append, List.set_cons_zero, List.set_cons_succ, List.length_cons, List.length_nil, Nat.reduceAdd, AV.sh, AV.sh1, AV.sh0, AO.sh, List.map_cons, List.map_nil, Nat.zero_add, Nat.add_zero, setAll]) | (apply w_move; exact rfl; exact rfl) | apply AWp.region | ((apply w_add); iterate 3 exact rfl) | (apply inI_of <;> omega))
          exact ⟨(i + 1, u, p * geti u.f (geti nv (i : Nat)), r * geti u.f (geti nv (i : Nat)) - p * geti u.g (geti nv (i : Nat))), ⟨by simp only; omega, i1, u1, u3, (okS_in hok).1, (okS_in hok).2⟩, by simp only; omega, ⟨lee rfl (by (repeat (first | exact le_nil | refine le_eq rfl rfl ?_))), by (repeat (first | exact lo_nil | refine lo_eq rfl ?_)), rfl, (by first | exact rfl | (simp [AO.lim, AV.lim, bL_lim]; done))⟩⟩
        · have hn1 := hbig hok
          rw [hn1] at i1
          have e1 : stS u p r (geti u.f (geti nv (i : Nat))) (geti u.g (geti nv (i : Nat))) = u.big := by unfold stS; rw [if_neg hok]
          have e2 : stV p r (geti u.f (geti nv (i : Nat))) (geti u.g (geti nv (i : Nat))) = .tuple #[.int .i64 0, .int .i64 0] := by unfold stV; rw [if_neg hok]
          rw [e1, e2] at hst
          refine AWp.regionG [] (by kernel_rfl) (envC := ⟨81, [(0, .optr 1 0), (1, .i v), (4, .i 0), (5, .i 0), (28, .ints nv), (29, .i nv.length), (30, .i i)]⟩) (osC := [.keep 5 K, .bx 98 [.ro (roI vW W), .ro (roN vN (nbs W E)), .own 2, .own 3, .own 4, .b u.big.l], .sli 2 u.big.f, .sli 2 u.big.g, .slr 4 (bL u.big.s)]) rfl (by first | exact rfl | (simp [AO.lim, AV.lim, bL_lim]; done)) ?_ ?_
          · repeat' (first | (apply AOps.nil; try simp only [List.nil_append, List.cons_append, List.set_cons_zero, List.set_cons_succ, List.length_cons, List.length_nil, Nat.reduceAdd, AV.sh, AV.sh1, AV.sh0, AO.sh, List.map_cons, List.map_nil, Nat.zero_add, Nat.add_zero, setAll]) | (apply w_move; exact rfl; exact rfl) | (apply w_assign; exact rfl; exact rfl) | apply AllOfG.nil | (apply AllOfG.consQ; exact rfl; exact rfl) | (apply AllOfG.consS; exact rfl; exact rfl) | (apply AAnyG.takeW; exact rfl; exact rfl; kernel_rfl; kernel_rfl) | (apply AAnyG.takeL; exact rfl; exact rfl; kernel_rfl) | (apply AAnyG.all; exact rfl) | (apply AAnyG.done; exact rfl) | ((apply w_nilck); iterate 2 exact rfl) | ((first | apply w_idx | apply w_ld | apply w_fa | apply w_extv); iterate 3 exact rfl) | (apply w_callb (hst); exact rfl; exact rfl; exact rfl; exact rfl; exact rfl; exact rfl; exact rfl; (exact rdI_ro _ _); (exact rdN_ro _ _); exact rfl; try simp only [List.nil_append, List.cons_append, List.set_cons_zero, List.set_cons_succ, List.length_cons, List.length_nil, Nat.reduceAdd, AV.sh, AV.sh1, AV.sh0, AO.sh, List.map_cons, List.map_nil, Nat.zero_add, Nat.add_zero, setAll]) | omega | (apply w_idxo; exact rfl; exact rfl; (exact .sli rfl); exact rfl) | (apply w_ldo; iterate 4 exact rfl) | (apply w_ldb; iterate 5 exact rfl))
            all_goals (apply Or.inl; refine ⟨lee rfl ?_, ?_, rfl, (by first | exact rfl | (simp [AO.lim, AV.lim, bL_lim]; done))⟩; (focus ((repeat (first | exact le_nil | refine le_eq rfl rfl ?_)); done)); (focus ((repeat (first | exact lo_nil | refine lo_eq rfl ?_)); done)))
          repeat' (first | (apply AOps.nil; try simp only [List.nil_append, List.cons_append, List.set_cons_zero, List.set_cons_succ, List.length_cons, List.length_nil, Nat.reduceAdd, AV.sh, AV.sh1, AV.sh0, AO.sh, List.map_cons, List.map_nil, Nat.zero_add, Nat.add_zero, setAll]) | (apply w_move; exact rfl; exact rfl) | apply AWp.region | ((apply w_add); iterate 3 exact rfl) | (apply inI_of <;> omega))
          exact ⟨(i + 1, u.big, 0, 0), ⟨by simp only; omega, i1, ⟨u1.lf, u1.lg, u1.ls, u1.bf, u1.bg⟩, u3, inM0, inM0⟩, by simp only; omega, ⟨lee rfl (by (repeat (first | exact le_nil | refine le_eq rfl rfl ?_))), by (repeat (first | exact lo_nil | refine lo_eq rfl ?_)), rfl, (by first | exact rfl | (simp [AO.lim, AV.lim, bL_lim]; done))⟩⟩
    · have ei : i = nv.length := by omega
      subst ei
      rw [List.drop_length] at i1
      subst i1
      unfold inM at i4 i5
      repeat' (first | (apply AOps.nil; try simp only [List.nil_append, List.cons_append, List.set_cons_zero, List.set_cons_succ, List.length_cons, List.length_nil, Nat.reduceAdd, AV.sh, AV.sh1, AV.sh0, AO.sh, List.map_cons, List.map_nil, Nat.zero_add, Nat.add_zero, setAll]) | (apply w_move; exact rfl; exact rfl) | (apply w_assign; exact rfl; exact rfl) | apply AWp.seq | apply AWp.region | ((apply AWp.condP; exact rfl) <;> intro h) | apply AWp.block | apply AWp.exit | apply AWp.skip | (apply if_pos'; exact rfl) | ((apply w_nilck); iterate 2 exact rfl) | ((first | apply w_lss | apply w_idx | apply w_ld | apply w_fa); iterate 3 exact rfl) | omega)
      refine AWp.regionG [] (by kernel_rfl) (envC := ⟨81, [(0, .optr 1 0)]⟩) (osC := [.keep 5 K, .bx 98 [.ro (roI vW W), .ro (roN vN (nbs W E)), .own 2, .own 3, .own 4, .b t.l], .sli 2 (t.f.set v.toNat r), .sli 2 (t.g.set v.toNat p), .slr 4 (bL t.s)]) rfl (by first | exact rfl | (simp [AO.lim, AV.lim, bL_lim]; done)) ?_ ?_
      · repeat' (first | (apply AOps.nil; try simp only [List.nil_append, List.cons_append, List.set_cons_zero, List.set_cons_succ, List.length_cons, List.length_nil, Nat.reduceAdd, AV.sh, AV.sh1, AV.sh0, AO.sh, List.map_cons, List.map_nil, Nat.zero_add, Nat.add_zero, setAll]) | (apply w_move; exact rfl; exact rfl) | apply AllOfG.nil | (apply AllOfG.consQ; exact rfl; exact rfl) | (apply AllOfG.consS; exact rfl; exact rfl) | (apply AAnyG.takeW; exact rfl; exact rfl; kernel_rfl; kernel_rfl) | (apply AAnyG.takeL; exact rfl; exact rfl; kernel_rfl) | (apply AAnyG.all; exact rfl) | (apply AAnyG.done; exact rfl) | ((apply w_nilck); iterate 2 exact rfl) | ((first | apply w_idx | apply w_ld | apply w_fa); iterate 3 exact rfl) | omega | (apply w_idxo; exact rfl; exact rfl; (exact .sli rfl); exact rfl) | (apply w_ldb; iterate 5 exact rfl) | (apply w_sti; exact rfl; exact rfl; rotate_left 1; exact rfl; rotate_left 2) | (apply inI_of <;> omega))
        all_goals (apply Or.inl; refine ⟨lee rfl ?_, ?_, rfl, (by first | exact rfl | (simp [AO.lim, AV.lim, bL_lim]; done))⟩; (focus ((repeat (first | exact le_nil | refine le_eq rfl rfl ?_)); done)); (focus ((repeat (first | exact lo_nil | refine lo_eq rfl ?_)); done)))
      repeat' (apply AOps.nil; try simp only [List.nil_append, List.cons_append, List.set_cons_zero, List.set_cons_succ, List.length_cons, List.length_nil, Nat.reduceAdd, AV.sh, AV.sh1, AV.sh0, AO.sh, List.map_cons, List.map_nil, Nat.zero_add, Nat.add_zero, setAll])
      exact ⟨.unit Try.results72, [], rfl⟩
end Go.Proofs.Ytlkhcelodcneiaa
/-
  A drawn region that makes five objects: their numbers follow from the slots that name them; structs of five given fields. No condition.
-/
namespace Go.Proofs.Ytlkhcelodcneiaa
open Go Go.RowKit
set_option linter.unusedVariables false

section
variable {P : Program} {env : Env} {os : List AO} {d : Option Tmp} {ty : TypeId} {pos : String} {af : Array Edge} {g : Option (Nat × Bool)} {wl : Bool}
theorem q_build56 {t : TypeId} {z1 z2 z3 z4 z5 z : Value} [ht : TBuild P t 6 [z1, z2, z3, z4, z5, z]] {x1 x2 x3 x4 x5 : Operand} {a1 a2 a3 a4 a5 : AV} (h1 : AV.ev env x1 = a1) (h2 : AV.ev env x2 = a2) (h3 : AV.ev env x3 = a3) (h4 : AV.ev env x4 = a4) (h5 : AV.ev env x5 = a5)
    (o1 : OneC env os a1) (o2 : OneC env os a2) (o3 : OneC env os a3) (o4 : OneC env os a4) (o5 : OneC env os a5) (hz : z.oneCell' = true) :
    QOp P wl ⟨d, .build t #[(0, x1), (1, x2), (2, x3), (3, x4), (4, x5)], ty, pos, af, g⟩ env os (.agg [a1, a2, a3, a4, a5, .val z]) :=
  .of_run fun _ w gs tm hr => by
    have v1 := hr.ev x1
    rw [h1] at v1
    have v2 := hr.ev x2
    rw [h2] at v2
    have v3 := hr.ev x3
    rw [h3] at v3
    have v4 := hr.ev x4
    rw [h4] at v4
    have v5 := hr.ev x5
    rw [h5] at v5
    obtain ⟨p1, c1⟩ := o1 _ _ _ _ hr _ v1
    obtain ⟨p2, c2⟩ := o2 _ _ _ _ hr _ v2
    obtain ⟨p3, c3⟩ := o3 _ _ _ _ hr _ v3
    obtain ⟨p4, c4⟩ := o4 _ _ _ _ hr _ v4
    obtain ⟨p5, c5⟩ := o5 _ _ _ _ hr _ v5
    refine ⟨.agg [Act.eval ⟨tm, []⟩ x1, Act.eval ⟨tm, []⟩ x2, Act.eval ⟨tm, []⟩ x3, Act.eval ⟨tm, []⟩ x4, Act.eval ⟨tm, []⟩ x5, z].toArray, .agg rfl (by simp; exact ⟨p1, p2, p3, p4, p5, hz⟩) (rv_list rfl fun i hi => ?_), fun w' _ => ?_⟩
    · match i, hi with
      | 0, _ => exact v1
      | 1, _ => exact v2
      | 2, _ => exact v3
      | 3, _ => exact v4
      | 4, _ => exact v5
      | 5, _ => exact .val _
    · have hb : P.built t (#[(0, Act.eval ⟨tm, []⟩ x1), (1, Act.eval ⟨tm, []⟩ x2), (2, Act.eval ⟨tm, []⟩ x3), (3, Act.eval ⟨tm, []⟩ x4), (4, Act.eval ⟨tm, []⟩ x5)] : Array (Nat × Value)).toList = some #[Act.eval ⟨tm, []⟩ x1, Act.eval ⟨tm, []⟩ x2, Act.eval ⟨tm, []⟩ x3, Act.eval ⟨tm, []⟩ x4, Act.eval ⟨tm, []⟩ x5, z] := by
        rcases ht.bl with e | e <;> rw [e] <;> simp [Instr.fill, c1, c2, c3, c4, c5, List.range_succ]
      simp [execOp, run_build (P := P) w' t _ _ hb]
end
section
variable {P : Program} {env : Env} {os : List AO} {d : Tmp} {ty : TypeId} {pos : String} {af : Array Edge} {g : Option (Nat × Bool)} {l rest : List Oper} {K : APost} {q : Md}
theorem w_build56 {t : TypeId} {z1 z2 z3 z4 z5 z : Value} [TBuild P t 6 [z1, z2, z3, z4, z5, z]] {x1 x2 x3 x4 x5 : Operand} {a1 a2 a3 a4 a5 : AV} (hw : wantedA l env ⟨some d, .build t #[(0, x1), (1, x2), (2, x3), (3, x4), (4, x5)], ty, pos, af, g⟩ = some true) (h1 : evo env x1 = some a1) (h2 : evo env x2 = some a2) (h3 : evo env x3 = some a3) (h4 : evo env x4 = some a4) (h5 : evo env x5 = some a5)
    (hz : z.oneCell' = true) (o1 : OneC env os a1) (o2 : OneC env os a2) (o3 : OneC env os a3) (o4 : OneC env os a4) (o5 : OneC env os a5)
    (h' : AOps P q l rest K (env.up d (.agg [a1, a2, a3, a4, a5, .val z])) os) : AOps P q l (⟨some d, .build t #[(0, x1), (1, x2), (2, x3), (3, x4), (4, x5)], ty, pos, af, g⟩ :: rest) K env os :=
  AOps.qo hw (q_build56 (ev_of h1) (ev_of h2) (ev_of h3) (ev_of h4) (ev_of h5) o1 o2 o3 o4 o5 hz) h'
end
theorem ResIs.a4 {P : Program} {env : Env} {os : List AO} {fn : Func} {t u s x : Tmp} (h : fn.results = #[.tmp t, .tmp u, .tmp s, .tmp x]) {a b c d : AV} (ha : env.fd t = some a) (hb : env.fd u = some b) (hc : env.fd s = some c) (hd : env.fd x = some d) : ResIs P fn env os (.tup [a, b, c, d]) :=
  fun _ _ _ tm hr => ⟨.tuple #[tm.getD t undef, tm.getD u undef, tm.getD s undef, tm.getD x undef], by unfold results; rw [h]; simp, .tup (vs := [tm.getD t undef, tm.getD u undef, tm.getD s undef, tm.getD x undef]) rfl fun i => by
    match i with
    | 0 => have := hr.he t; rw [gd_of ha] at this; exact this
    | 1 => have := hr.he u; rw [gd_of hb] at this; exact this
    | 2 => have := hr.he s; rw [gd_of hc] at this; exact this
    | 3 => have := hr.he x; rw [gd_of hd] at this; exact this
    | i + 4 => exact .any _⟩
end Go.Proofs.Ytlkhcelodcneiaa
/-
  Operations that make memory, each its own, in whatever order: one order is enough. No condition.
-/
namespace Go.Proofs.Ytlkhcelodcneiaa
open Go Go.RowKit
set_option linter.unusedVariables false

/-- What an operation brings: a new object (by its slice value, by its address), or a value. -/
inductive Kd where
  | own (o : AO)
  | ptr (o : AO)
  | val (a : AV)
structure It where
  i : Nat
  d : Nat
  q : Kd
def It.r (it : It) (m : Nat) : AV := match it.q with
  | .own _ => .own m
  | .ptr _ => .optr m 0
  | .val a => a
def It.os (it : It) : List AO := match it.q with
  | .own o => [o]
  | .ptr o => [o]
  | .val _ => []
def osL (D : List It) : List AO := D.flatMap It.os
theorem osL_app (A B : List It) : osL (A ++ B) = osL A ++ osL B := List.flatMap_append
theorem osL_perm {A B : List It} (h : A.Perm B) : (osL A).length = (osL B).length := by
  unfold osL
  rw [List.length_flatMap, List.length_flatMap]
  exact (h.map _).sum_nat
def Fr (env0 : Env) (ds : List Nat) (env : Env) : Prop := env.n = env0.n ∧ ∀ k, k ∉ ds → env.fd k = env0.fd k
def upsL (env : Env) : List It → Nat → Env
  | [], _ => env
  | it :: D, n => upsL (env.up it.d (it.r n)) D (n + it.os.length)
theorem upsL_app (B : List It) : ∀ (A : List It) (env : Env) (n : Nat), upsL env (A ++ B) n = upsL (upsL env A n) B (n + (osL A).length)
  | [], env, n => rfl
  | c :: C, env, n => by
    rw [List.cons_append, upsL, upsL_app B C, upsL]
    congr 1
    rw [show c :: C = [c] ++ C from rfl, osL_app, List.length_append]
    simp only [osL, List.flatMap_cons, List.flatMap_nil, List.append_nil]; omega
theorem upsL_snoc (it : It) (D : List It) (env : Env) (n : Nat) : upsL env (D ++ [it]) n = (upsL env D n).up it.d (it.r (n + (osL D).length)) := by
  rw [upsL_app]; rfl
theorem fd_up (e : Env) (d : Nat) (r : AV) (k : Nat) : (e.up d r).fd k = if k = d ∧ d < e.n then some r else e.fd k := by
  simp only [Env.fd, Env.up, fdm]
  by_cases h : k = d
  · subst h
    have : Nat.beq k k = true := Nat.beq_refl k
    by_cases h2 : k < e.n
    · have h3 : Nat.blt k e.n = true := by rw [Nat.blt_eq]; exact h2
      simp [h2, h3]
    · have h3 : Nat.blt k e.n = false := by rw [Bool.eq_false_iff]; intro h4; rw [Nat.blt_eq] at h4; exact h2 h4
      simp [h2, h3]
  · have : Nat.beq d k = false := by rw [Bool.eq_false_iff]; intro h4; exact h (Nat.eq_of_beq_eq_true h4).symm
    simp [h, this]
theorem upsL_n : ∀ (D : List It) (env : Env) (n : Nat), (upsL env D n).n = env.n
  | [], env, n => rfl
  | a :: D, env, n => by rw [upsL, upsL_n D]; rfl
theorem upsL_fd : ∀ (D : List It) (env : Env) (n k : Nat), k ∉ D.map (·.d) → (upsL env D n).fd k = env.fd k
  | [], env, n, k, _ => rfl
  | a :: D, env, n, k, h => by
    simp only [List.map_cons, List.mem_cons, not_or] at h
    rw [upsL, upsL_fd D _ _ _ h.2, fd_up, if_neg (fun e => h.1 e.1)]
theorem upsL_at (it : It) (A B : List It) (env : Env) (n : Nat) (hd : it.d < env.n) (hB : it.d ∉ B.map (·.d)) : (upsL env (A ++ it :: B) n).fd it.d = some (it.r (n + (osL A).length)) := by
  have e : A ++ it :: B = (A ++ [it]) ++ B := by simp
  rw [e, upsL_app, upsL_fd _ _ _ _ hB, upsL_snoc, fd_up, if_pos ⟨rfl, by rw [upsL_n]; exact hd⟩]

/-! ### Which have been -/
def lsD (listed : List Bool) : List Nat → List Bool
  | [] => listed
  | i :: is => lsD (listed.set i true) is
theorem lsD_snoc (i : Nat) : ∀ (is : List Nat) (listed : List Bool), lsD listed (is ++ [i]) = (lsD listed is).set i true
  | [], _ => rfl
  | j :: is, listed => by rw [List.cons_append, lsD, lsD, lsD_snoc i is]
theorem lsD_get : ∀ (is : List Nat) (listed : List Bool) (k : Nat), (lsD listed is)[k]? = if k ∈ is ∧ k < listed.length then some true else listed[k]?
  | [], listed, k => by simp [lsD]
  | i :: is, listed, k => by
    rw [lsD, lsD_get is, List.length_set, List.getElem?_set]
    by_cases h2 : k < listed.length
    · by_cases h1 : k ∈ is
      · rw [if_pos ⟨h1, h2⟩, if_pos ⟨by simp [h1], h2⟩]
      · rw [if_neg (fun h => h1 h.1)]
        by_cases e : i = k
        · subst e
          rw [if_pos rfl, if_pos h2, if_pos ⟨by simp, h2⟩]
        · rw [if_neg e, if_neg]
          rintro ⟨h3, _⟩
          rcases List.mem_cons.1 h3 with h3 | h3
          · exact e h3.symm
          · exact h1 h3
    · simp only [h2, and_false, if_false]
      by_cases e : i = k
      · subst e; rw [if_pos rfl, if_neg h2, List.getElem?_eq_none (by omega)]
      · rw [if_neg e]
theorem lsD_congr {listed : List Bool} {A B : List Nat} (h : ∀ k, k ∈ A ↔ k ∈ B) : lsD listed A = lsD listed B := by
  apply List.ext_getElem?
  intro k
  rw [lsD_get, lsD_get]
  simp only [h]
def subs : List Nat → List (List Nat)
  | [] => [[]]
  | x :: xs => subs xs ++ (subs xs).map (x :: ·)
theorem filter_subs (f : Nat → Bool) : ∀ xs : List Nat, xs.filter f ∈ subs xs
  | [] => by simp [subs]
  | x :: xs => by
    rw [subs, List.mem_append]
    cases h : f x
    · left; rw [List.filter_cons_of_neg (by simp [h])]; exact filter_subs f xs
    · right; rw [List.filter_cons_of_pos h]; exact List.mem_map.2 ⟨_, filter_subs f xs, rfl⟩

section
variable {P : Program} {qs : List Nat} {l : List Oper} {K : APost} {env0 : Env} {os0 : List AO}
def NStep (P : Program) (qs : List Nat) (l : List Oper) (env0 : Env) (os0 : List AO) (N : List It) (it : It) : Prop :=
  ∃ o, l[it.i]? = some o ∧ gentB qs o = false ∧ ∀ (env : Env) (os : List AO) (K' : APost), Fr env0 (N.map (·.d)) env → (∃ t, os = os0 ++ t) →
    (∀ z ∈ N, ∀ a, z.q = .val a → (o.after.toList.any fun e => Region.binds .any e && e.on == z.i) = true → env.fd z.d = some a) → K' (env.up it.d (it.r os.length)) (os ++ it.os) → AOps P .seq l [o] K' env os
/-- A load: it need not wait for what makes memory. -/
def NStepQ (P : Program) (qs : List Nat) (l : List Oper) (env0 : Env) (os0 : List AO) (N : List It) (it : It) : Prop :=
  ∃ o, l[it.i]? = some o ∧ gentB qs o = true ∧ ∀ (env : Env) (os : List AO) (K' : APost), Fr env0 (N.map (·.d)) env → (∃ t, os = os0 ++ t) →
    (∀ z ∈ N, ∀ a, z.q = .val a → (o.after.toList.any fun e => Region.binds .any e && e.on == z.i) = true → env.fd z.d = some a) → K' (env.up it.d (it.r os.length)) (os ++ it.os) → AOps P .quiet l [o] K' env os
theorem AllOfG.of {fuel : Nat} {listed : List Bool} {env : Env} {os : List AO} : ∀ {rs : List Nat}, (∀ i ∈ rs, ∃ o, l[i]? = some o ∧ AOps P (cond (gentB qs o) .quiet .seq) l [o] (fun env os => AAnyG P qs l fuel (listed.set i true) K env os) env os) → AllOfG P qs l fuel listed K env os rs
  | [], _ => trivial
  | i :: rs, h => ⟨h i (by simp), AllOfG.of fun j hj => h j (by simp [hj])⟩
/-- A set of operations that can have been: each with those that it waits for. -/
def depOk (l : List Oper) (idx S : List Nat) : Bool := S.all fun k => match l[k]? with | some o => o.after.toList.all fun e => !(Region.binds .any e && idx.contains e.on) || S.contains e.on | none => true
/-- What comes up is among those that have not been. -/
def chkR (l : List Oper) (listed : List Bool) (idx S : List Nat) : Bool := !(rdyGo (lsD listed S) 0 l).isEmpty && (rdyGo (lsD listed S) 0 l).all fun j => idx.contains j && !S.contains j
theorem it_inj : ∀ L : List It, (L.map (·.i)).Nodup → ∀ x ∈ L, ∀ y ∈ L, x.i = y.i → x = y := by
  intro L
  induction L with
  | nil => intro _ x hx; cases hx
  | cons w L ihL =>
    intro hn x hx y hy hxy
    rw [List.map_cons] at hn
    obtain ⟨n1, n2⟩ := List.nodup_cons.1 hn
    rcases List.mem_cons.1 hx with e1 | g1
    · rcases List.mem_cons.1 hy with e2 | g2
      · exact e1.trans e2.symm
      · exact absurd (List.mem_map.2 ⟨y, g2, by rw [← hxy, e1]⟩) n1
    · rcases List.mem_cons.1 hy with e2 | g2
      · exact absurd (List.mem_map.2 ⟨x, g1, by rw [hxy, e2]⟩) n1
      · exact ihL n2 x g1 y g2 hxy
theorem AAnyG.newsRun {N N' : List It} (hN' : ∀ z ∈ N', z ∈ N) (hnN : (N'.map (·.i)).Nodup) {listed : List Bool} {fuel : Nat} (hst : ∀ it ∈ N, NStep P qs l env0 os0 N it ∨ NStepQ P qs l env0 os0 N it) (hnd : (N.map (·.i)).Nodup) (hds : (N.map (·.d)).Nodup) (hdn : ∀ it ∈ N, it.d < env0.n) (hl0 : ∀ it ∈ N, listed.getD it.i true = false)
    (hrd : (subs (N.map (·.i))).all (fun S => !depOk l (N.map (·.i)) S || (S.length == N.length || (N'.map (·.i)).isPerm S || chkR l listed (N.map (·.i)) S)) = true)
    (hstop : ∀ D, D.Perm N' → AAnyG P qs l (fuel + (N.length - N'.length)) (lsD listed (D.map (·.i))) K (upsL env0 D os0.length) (os0 ++ osL D))
    (hfin : ∀ D, D.Perm N → AAnyG P qs l fuel (lsD listed (D.map (·.i))) K (upsL env0 D os0.length) (os0 ++ osL D)) :
    ∀ (m : Nat) (D R : List It), R.length = m → (D ++ R).Perm N → (∀ k ∈ D.map (·.i), ∀ o, l[k]? = some o → ∀ e ∈ o.after.toList, Region.binds .any e = true → e.on ∈ N.map (·.i) → e.on ∈ D.map (·.i)) → AAnyG P qs l (fuel + m) (lsD listed (D.map (·.i))) K (upsL env0 D os0.length) (os0 ++ osL D)
  | 0, D, R, hm, hp, hcl => by
    have : R = [] := List.eq_nil_of_length_eq_zero hm
    subst this
    rw [List.append_nil] at hp
    exact hfin D hp
  | m + 1, D, R, hm, hp, hcl => by
    have hpi : (D.map (·.i) ++ R.map (·.i)).Perm (N.map (·.i)) := by rw [← List.map_append]; exact hp.map _
    have hndD := hpi.nodup_iff.2 hnd
    have hlen : D.length + R.length = N.length := by rw [← List.length_append]; exact hp.length_eq
    -- the canonical list of those that have been
    let S := (N.map (·.i)).filter fun j => (D.map (·.i)).contains j
    have hS : ∀ k, k ∈ S ↔ k ∈ D.map (·.i) := fun k => by
      simp only [S, List.mem_filter, List.contains_eq_mem, decide_eq_true_eq]
      constructor
      · exact fun h => h.2
      · exact fun h => ⟨hpi.mem_iff.1 (List.mem_append.2 (.inl h)), h⟩
    have hSm := filter_subs (fun j => (D.map (·.i)).contains j) (N.map (·.i))
    have hdo : depOk l (N.map (·.i)) S = true := by
      unfold depOk
      rw [List.all_eq_true]
      intro k hk
      cases ho : l[k]? with
      | none => rfl
      | some o =>
        show (o.after.toList.all fun e => !(Region.binds .any e && (N.map (·.i)).contains e.on) || S.contains e.on) = true
        rw [List.all_eq_true]
        intro e he
        cases hb : Region.binds .any e && (N.map (·.i)).contains e.on with
        | false => rfl
        | true =>
          rw [Bool.and_eq_true, List.contains_eq_mem, decide_eq_true_eq] at hb
          have := (hS _).2 (hcl k ((hS k).1 hk) o ho e he hb.1 hb.2)
          simp [this]
    have hc := List.all_eq_true.1 hrd S hSm
    rw [hdo, Bool.not_true, Bool.false_or] at hc
    have hSl : S.length ≠ N.length := by
      intro e
      have hSn : S.Nodup := hnd.sublist List.filter_sublist
      have h1 : S.Perm (D.map (·.i)) := (List.perm_ext_iff_of_nodup hSn (List.nodup_append.1 hndD).1).2 hS
      have := h1.length_eq
      rw [List.length_map] at this; omega
    have hc2 : (N'.map (·.i)).isPerm S = true ∨ chkR l listed (N.map (·.i)) S = true := by
      rcases Bool.or_eq_true_iff.1 hc with h | h
      · rcases Bool.or_eq_true_iff.1 h with h | h
        · exact absurd (by simpa using h) hSl
        · exact .inl h
      · exact .inr h
    rcases hc2 with hst' | hc'
    · have hSp : (N'.map (·.i)).Perm S := List.isPerm_iff.1 hst'
      have hDmem : ∀ z ∈ D, z ∈ N := fun z hz => hp.mem_iff.1 (List.mem_append.2 (.inl hz))
      have hDi := (List.nodup_append.1 hndD).1
      have nd_of : ∀ L : List It, (L.map (·.i)).Nodup → L.Nodup := fun L h => by
        have h1 : (L.map (·.i)).Pairwise (· ≠ ·) := h
        rw [List.pairwise_map] at h1
        exact h1.imp fun h e => h (congrArg It.i e)
      have hDN' : D.Perm N' := (List.perm_ext_iff_of_nodup (nd_of D hDi) (nd_of N' hnN)).2 fun z => by
        constructor
        · intro hz
          have h1 : z.i ∈ N'.map (·.i) := hSp.mem_iff.2 ((hS _).2 (List.mem_map.2 ⟨z, hz, rfl⟩))
          obtain ⟨y, hy, e⟩ := List.mem_map.1 h1
          have := it_inj N hnd y (hN' y hy) z (hDmem z hz) e
          rwa [← this]
        · intro hz
          have h1 : z.i ∈ D.map (·.i) := (hS _).1 (hSp.mem_iff.1 (List.mem_map.2 ⟨z, hz, rfl⟩))
          obtain ⟨y, hy, e⟩ := List.mem_map.1 h1
          have := it_inj N hnd y (hDmem y hy) z (hN' z hz) e
          rwa [← this]
      have hl1 := hDN'.length_eq
      rw [show m + 1 = N.length - N'.length by omega]
      exact hstop D hDN'
    unfold chkR at hc'
    rw [lsD_congr hS] at hc'
    obtain ⟨h1, h2⟩ := Bool.and_eq_true_iff.1 hc'
    cases hr : rdyGo (lsD listed (D.map (·.i))) 0 l with
    | nil => rw [hr] at h1; simp at h1
    | cons j js =>
      rw [← Nat.add_assoc]
      refine AAnyG.all hr (AllOfG.of fun k hk => ?_)
      rw [← hr] at hk
      have h3 := List.all_eq_true.1 h2 k hk
      simp only [List.contains_eq_mem, Bool.and_eq_true, decide_eq_true_eq, Bool.not_eq_true', decide_eq_false_iff_not] at h3
      have hkS : k ∉ D.map (·.i) := fun h => h3.2 ((hS k).2 h)
      have hkR : k ∈ R.map (·.i) := by
        rcases List.mem_append.1 (hpi.mem_iff.2 h3.1) with h | h
        · exact absurd h hkS
        · exact h
      obtain ⟨it, hit, rfl⟩ := List.mem_map.1 hkR
      obtain ⟨A, B, rfl⟩ := List.append_of_mem hit
      have hp' : ((D ++ [it]) ++ (A ++ B)).Perm N := by
        refine List.Perm.trans ?_ hp
        rw [List.append_assoc]
        exact List.Perm.append_left _ (List.perm_middle (l₁ := A)).symm
      have hin : ∀ o, l[it.i]? = some o → ∀ e ∈ o.after.toList, Region.binds .any e = true → e.on ∈ N.map (·.i) → e.on ∈ D.map (·.i) := by
        intro o ho e he hbe hz
        obtain ⟨_, _, o', ho', hb⟩ := mem_rdyGo.1 hk
        rw [Nat.sub_zero] at ho'
        have eo : o' = o := by rw [ho] at ho'; exact (Option.some.inj ho').symm
        subst eo
        obtain ⟨z, hzN, ez⟩ := List.mem_map.1 hz
        have h5 := hb e (by simpa using he) hbe
        rw [List.getD_eq_getElem?_getD, lsD_get] at h5
        have h6 := hl0 z hzN
        rw [ez, List.getD_eq_getElem?_getD] at h6
        apply Classical.byContradiction
        intro hn
        rw [if_neg (fun h => hn h.1)] at h5
        cases hx : listed[e.on]? with
        | none => rw [hx] at h5; cases h5
        | some b => rw [hx] at h5 h6; simp at h5 h6; rw [h5] at h6; cases h6
      have hcl' : ∀ k ∈ (D ++ [it]).map (·.i), ∀ o, l[k]? = some o → ∀ e ∈ o.after.toList, Region.binds .any e = true → e.on ∈ N.map (·.i) → e.on ∈ (D ++ [it]).map (·.i) := by
        intro k' hk' o ho e he hbe hz
        rw [List.map_append, List.mem_append] at hk' ⊢
        rcases hk' with hk' | hk'
        · exact .inl (hcl k' hk' o ho e he hbe hz)
        · rw [List.map_cons, List.map_nil, List.mem_singleton] at hk'
          subst hk'
          exact .inl (hin o ho e he hbe hz)
      have ih := AAnyG.newsRun hN' hnN hst hnd hds hdn hl0 hrd hstop hfin m (D ++ [it]) (A ++ B) (by simp at hm ⊢; omega) hp' hcl'
      have hDN : ∀ z ∈ D, z ∈ N := fun z hz => hp.mem_iff.1 (List.mem_append.2 (.inl hz))
      have hfr : Fr env0 (N.map (·.d)) (upsL env0 D os0.length) := ⟨upsL_n _ _ _, fun k hk => upsL_fd _ _ _ _ fun h => hk (by
        obtain ⟨z, hz, rfl⟩ := List.mem_map.1 h
        exact List.mem_map.2 ⟨z, hDN z hz, rfl⟩)⟩
      have hDd : (D.map (·.d)).Nodup := by
        have : ((D ++ (A ++ it :: B)).map (·.d)).Nodup := (hp.map (·.d)).nodup_iff.2 hds
        rw [List.map_append] at this
        exact (List.nodup_append.1 this).1
      have hdep : ∀ o : Oper, l[it.i]? = some o → ∀ z ∈ N, ∀ a, z.q = .val a → (o.after.toList.any fun e => Region.binds .any e && e.on == z.i) = true → (upsL env0 D os0.length).fd z.d = some a := by
        intro o ho z hz a ha hany
        obtain ⟨_, _, o', ho', hb⟩ := mem_rdyGo.1 hk
        rw [Nat.sub_zero] at ho'
        have eo : o' = o := by rw [ho] at ho'; exact (Option.some.inj ho').symm
        subst eo
        obtain ⟨e, he, hbe⟩ := List.any_eq_true.1 hany
        simp only [Bool.and_eq_true, beq_iff_eq] at hbe
        have h5 := hb e (by simpa using he) hbe.1
        rw [hbe.2, List.getD_eq_getElem?_getD, lsD_get] at h5
        have h6 := hl0 z hz
        rw [List.getD_eq_getElem?_getD] at h6
        have hzD : z.i ∈ D.map (·.i) := by
          apply Classical.byContradiction
          intro hn
          rw [if_neg (fun h => hn h.1)] at h5
          cases hx : listed[z.i]? with
          | none => rw [hx] at h5; cases h5
          | some b => rw [hx] at h5 h6; simp at h5 h6; rw [h5] at h6; cases h6
        obtain ⟨z', hz', ez⟩ := List.mem_map.1 hzD
        have hzz : z' = z := by
          exact it_inj N hnd z' (hDN z' hz') z hz ez
        subst hzz
        obtain ⟨A', B', eD⟩ := List.append_of_mem hz'
        have hdB : z'.d ∉ B'.map (·.d) := by
          rw [eD, List.map_append, List.map_cons] at hDd
          exact (List.nodup_cons.1 (List.nodup_append.1 hDd).2.1).1
        rw [eD, upsL_at z' A' B' env0 _ (hdn z' hz) hdB]
        unfold It.r
        rw [ha]
      have hK : AAnyG P qs l (fuel + m) ((lsD listed (D.map (·.i))).set it.i true) K ((upsL env0 D os0.length).up it.d (it.r (os0 ++ osL D).length)) ((os0 ++ osL D) ++ it.os) := by
        rw [List.map_append, osL_app, List.map_cons, List.map_nil, lsD_snoc, upsL_snoc, ← List.append_assoc] at ih
        rw [List.length_append]
        have e1 : osL [it] = it.os := by simp [osL]
        rw [e1] at ih
        exact ih
      rcases hst it (hp.mem_iff.1 (List.mem_append.2 (.inr hit))) with ⟨o, ho, hg, hop⟩ | ⟨o, ho, hg, hop⟩
      · refine ⟨o, ho, ?_⟩
        rw [hg]
        exact hop _ _ _ hfr ⟨_, rfl⟩ (hdep o ho) hK
      · refine ⟨o, ho, ?_⟩
        rw [hg]
        exact hop _ _ _ hfr ⟨_, rfl⟩ (hdep o ho) hK
theorem AAnyG.turns {fuel : Nat} {listed : List Bool} {env env' : Env} {os os' : List AO} (ht : Turns env os env' os') (h : AAnyG P qs l fuel listed K env' os') : AAnyG P qs l fuel listed K env os := by
  intro base w0 w gs tm hr hb X Rt
  obtain ⟨gs', hr'⟩ := ht base w gs tm hr
  exact h base w0 w gs' tm hr' hb X Rt

/-! ### One order -/
def canL : List It → Nat → List (Nat × AV)
  | [], _ => []
  | it :: N, n => (it.d, it.r n) :: canL N (n + it.os.length)
theorem ixOf_of : ∀ {σ : List Nat} {j h : Nat}, σ.Nodup → σ[j]? = some h → ixOf σ h = some j
  | [], j, h, _, e => by simp at e
  | s :: t, 0, h, _, e => by
    simp at e; subst e
    simp [ixOf, Nat.beq_refl]
  | s :: t, j + 1, h, hn, e => by
    have e' : t[j]? = some h := by simpa using e
    obtain ⟨n1, n2⟩ := List.nodup_cons.1 hn
    have hne : Nat.beq s h = false := by
      rw [Bool.eq_false_iff]; intro hb
      have := Nat.eq_of_beq_eq_true hb
      subst this; exact n1 (List.mem_of_getElem? e')
    rw [ixOf, hne, ixOf_of n2 e']; rfl
theorem leM_app {e : Env} : ∀ {a b : List (Nat × AV)}, LeM e a → LeM e b → LeM e (a ++ b)
  | [], _, _, hb => hb
  | _ :: _, _, ha, hb => ⟨ha.1, leM_app ha.2 hb⟩
theorem leM_of {e : Env} : ∀ {a : List (Nat × AV)}, (∀ p ∈ a, e.fd p.1 = some p.2) → LeM e a
  | [], _ => trivial
  | p :: _, h => ⟨h p (by simp), leM_of fun q hq => h q (by simp [hq])⟩
theorem leO_refl : ∀ a : List AO, LeO a a
  | [] => trivial
  | _ :: a => ⟨.inr (.inl rfl), leO_refl a⟩
theorem fd_mp (f : AV → AV) (e : Env) (k : Nat) : (e.mp f).fd k = (e.fd k).map f := by
  simp only [Env.fd, Env.mp, fdm_mp]
  cases Nat.blt k e.n <;> rfl
theorem mem_canL {N : List It} : ∀ {n : Nat} {p : Nat × AV}, p ∈ canL N n → ∃ (A B : List It) (it : It), N = A ++ it :: B ∧ p = (it.d, it.r (n + (osL A).length)) := by
  induction N with
  | nil => intro n p h; cases h
  | cons a N ih =>
    intro n p h
    rcases List.mem_cons.1 h with rfl | h
    · exact ⟨[], N, a, rfl, rfl⟩
    · obtain ⟨A, B, it, h1, h2⟩ := ih h
      refine ⟨a :: A, B, it, by rw [h1]; rfl, by rw [h2, show a :: A = [a] ++ A from rfl, osL_app, List.length_append]; congr 2; simp [osL]; omega⟩
/-- What stays when numbers change beyond the first n0. -/
def Clo (n0 M : Nat) (o : AO) : Prop := o.lim M = o ∧ ∀ σ : List Nat, n0 ≤ σ.length → σ.take n0 = List.range n0 → o.ren σ = o
/-- What stays of an operation's gift. -/
def CloI (n0 M : Nat) (it : It) : Prop := (∀ o ∈ it.os, Clo n0 M o) ∧ ∀ a, it.q = .val a → a.lim M = a ∧ ∀ σ, a.ren σ = a
theorem it_os1 {it : It} (h : ∀ a, it.q ≠ .val a) : ∃ o, it.os = [o] := by
  unfold It.os
  cases hq : it.q with
  | own o => exact ⟨o, rfl⟩
  | ptr o => exact ⟨o, rfl⟩
  | val a => exact absurd hq (h a)
theorem it_os0 {it : It} {a : AV} (h : it.q = .val a) : it.os = [] := by unfold It.os; rw [h]
theorem r_ren {it : It} {σ : List Nat} {m j : Nat} (h : ∀ a, it.q ≠ .val a) (hx : ixOf σ m = some j) : (it.r m).ren σ = it.r j := by
  unfold It.r
  cases hq : it.q with
  | own o => simp [AV.ren, hx]
  | ptr o => simp [AV.ren, hx]
  | val a => exact absurd hq (h a)
theorem r_lim {it : It} {m n : Nat} (h : ∀ a, it.q ≠ .val a) (hx : m < n) : (it.r m).lim n = it.r m := by
  unfold It.r
  cases hq : it.q with
  | own o => simp [AV.lim, hx]
  | ptr o => simp [AV.lim, hx]
  | val a => exact absurd hq (h a)
theorem r_val {it : It} {a : AV} (h : it.q = .val a) (m : Nat) : it.r m = a := by unfold It.r; rw [h]
theorem osL_at {A B : List It} {it : It} {o : AO} (h : it.os = [o]) : (osL (A ++ it :: B))[(osL A).length]? = some o := by
  rw [osL_app, List.getElem?_append_right (Nat.le_refl _), Nat.sub_self]
  simp [osL, h]
theorem flat_len (N : List It) (f : It → Nat) : (N.flatMap fun it => it.os.map fun _ => f it).length = (osL N).length := by
  unfold osL
  rw [List.length_flatMap, List.length_flatMap]
  congr 1
  exact List.map_congr_left fun it _ => by simp
theorem news_turn {N D : List It} {kept : List (Nat × AV)} (hp : D.Perm N) (hnd : (N.map (·.i)).Nodup) (hds : (N.map (·.d)).Nodup) (hdn : ∀ it ∈ N, it.d < env0.n) (hk : ∀ p ∈ kept, env0.fd p.1 = some p.2 ∧ p.1 ∉ N.map (·.d) ∧ p.2.lim (os0.length + (osL N).length) = p.2 ∧ ∀ σ, p.2.ren σ = p.2)
    (ho : ∀ o ∈ os0, Clo os0.length (os0.length + (osL N).length) o) (hN : ∀ it ∈ N, CloI os0.length (os0.length + (osL N).length) it) :
    Turns (upsL env0 D os0.length) (os0 ++ osL D) ⟨env0.n, canL N os0.length ++ kept⟩ (os0 ++ osL N) := by
  let n0 := os0.length
  have hDd : (D.map (·.d)).Nodup := (hp.map (·.d)).nodup_iff.2 hds
  have hNn : N.Nodup := by
    have h1 : (N.map (·.i)).Pairwise (· ≠ ·) := hnd
    rw [List.pairwise_map] at h1
    exact h1.imp fun h e => h (congrArg It.i e)
  have hDn : D.Nodup := hp.nodup_iff.2 hNn
  have hlD := osL_perm hp
  have hex : ∀ it : It, it ∈ N → ∃ A B, D = A ++ it :: B := fun it hit => List.append_of_mem (hp.mem_iff.2 hit)
  let pos : It → Nat := fun it => open Classical in if h : it ∈ N then (osL (hex it h).choose).length else 0
  have hpos : ∀ it ∈ N, ∃ A B, D = A ++ it :: B ∧ pos it = (osL A).length := fun it hit => by
    obtain ⟨B, hB⟩ := (hex it hit).choose_spec
    exact ⟨_, B, hB, by simp only [pos, dif_pos hit]⟩
  have huni : ∀ {A B A' B' : List It} {it : It}, D = A ++ it :: B → D = A' ++ it :: B' → A = A' := by
    intro A B A' B' it h1 h2
    have n1 : D[A.length]? = some it := by rw [h1]; simp
    have n2 : D[A'.length]? = some it := by rw [h2]; simp
    have hl := (List.getElem?_inj (List.getElem?_eq_some_iff.1 n1).1 hDn).1 (n1.trans n2.symm)
    have h3 := congrArg (List.take A.length) (h1.symm.trans h2)
    rw [List.take_left] at h3
    rw [h3, hl, List.take_left]
  let σ : List Nat := List.range n0 ++ N.flatMap fun it => it.os.map fun _ => n0 + pos it
  have hσl : n0 ≤ σ.length := by simp [σ]
  have hσt : σ.take n0 = List.range n0 := by simp [σ]
  have hobj : ∀ it ∈ N, ∀ o, it.os = [o] → (os0 ++ osL D)[n0 + pos it]? = some o := fun it hit o h1 => by
    obtain ⟨A, B, hD, hpa⟩ := hpos it hit
    rw [List.getElem?_append_right (by omega), show n0 + pos it - os0.length = pos it by omega, hpa, hD]
    exact osL_at h1
  have hsep : ∀ a ∈ N, ∀ b ∈ N, a ≠ b → (∃ o, a.os = [o]) → (∃ o, b.os = [o]) → pos a ≠ pos b := by
    rintro a ha b hb hab ⟨oa, ea⟩ ⟨ob, eb⟩
    obtain ⟨A, B, hD, hpa⟩ := hpos a ha
    obtain ⟨A', B', hD', hpb⟩ := hpos b hb
    have hbm : b ∈ D := hp.mem_iff.2 hb
    rw [hD] at hbm
    rcases List.mem_append.1 hbm with hm | hm
    · obtain ⟨C, E, rfl⟩ := List.append_of_mem hm
      have := huni (A := C) (B := E ++ a :: B) (by rw [hD]; simp) hD'
      subst this
      rw [hpa, hpb, osL_app, List.length_append]
      simp only [osL, List.flatMap_cons, eb, List.length_append, List.length_singleton]; omega
    · rcases List.mem_cons.1 hm with e | hm
      · exact absurd e.symm hab
      · obtain ⟨C, E, rfl⟩ := List.append_of_mem hm
        have := huni (A := A ++ a :: C) (B := E) (by rw [hD]; simp) hD'
        subst this
        rw [hpa, hpb, osL_app, List.length_append]
        simp only [osL, List.flatMap_cons, ea, List.length_append, List.length_singleton]; omega
  have hσn : σ.Nodup := by
    rw [List.nodup_append]
    refine ⟨List.nodup_range, ?_, ?_⟩
    · have key : ∀ L : List It, L.Nodup → (∀ it ∈ L, it ∈ N) → (L.flatMap fun it => it.os.map fun _ => n0 + pos it).Nodup := by
        intro L
        induction L with
        | nil => intro _ _; exact List.nodup_nil
        | cons a L ih =>
          intro hn hs
          obtain ⟨n1, n2⟩ := List.nodup_cons.1 hn
          rw [List.flatMap_cons, List.nodup_append]
          refine ⟨?_, ih n2 fun it hit => hs it (by simp [hit]), ?_⟩
          · unfold It.os; cases a.q <;> simp
          · intro x hx y hy exy
            obtain ⟨oa, hoa, rfl⟩ := List.mem_map.1 hx
            obtain ⟨b, hb, hy⟩ := List.mem_flatMap.1 hy
            obtain ⟨ob, hob, rfl⟩ := List.mem_map.1 hy
            have q1 : ∃ o, a.os = [o] := by
              refine it_os1 fun z hz => ?_
              rw [it_os0 hz] at hoa; cases hoa
            have q2 : ∃ o, b.os = [o] := by
              refine it_os1 fun z hz => ?_
              rw [it_os0 hz] at hob; cases hob
            exact hsep a (hs a (by simp)) b (hs b (by simp [hb])) (fun e => n1 (e ▸ hb)) q1 q2 (by omega)
      exact key N hNn fun it h => h
    · intro a ha b hb e
      have := List.mem_range.1 ha
      obtain ⟨it, _, hb⟩ := List.mem_flatMap.1 hb
      obtain ⟨_, _, rfl⟩ := List.mem_map.1 hb
      omega
  have hσk : ∀ (A B : List It) it, N = A ++ it :: B → (∃ o, it.os = [o]) → σ[n0 + (osL A).length]? = some (n0 + pos it) := by
    rintro A B it hNe ⟨o, eo⟩
    show (List.range n0 ++ N.flatMap fun it => it.os.map fun _ => n0 + pos it)[n0 + (osL A).length]? = _
    rw [List.getElem?_append_right (by simp), List.length_range, Nat.add_sub_cancel_left, hNe, List.flatMap_append, List.getElem?_append_right (by rw [flat_len]; exact Nat.le_refl _), flat_len, Nat.sub_self, List.flatMap_cons, eo]
    rfl
  have hsel : selO σ (os0 ++ osL D) = os0 ++ osL N := by
    show σ.map _ = _
    rw [show σ = List.range n0 ++ N.flatMap (fun it => it.os.map fun _ => n0 + pos it) from rfl, List.map_append]
    congr 1
    · apply List.ext_getElem (by simp [n0])
      intro i h1 h2
      simp only [List.getElem_map, List.getElem_range]
      rw [List.getD_eq_getElem?_getD, List.getElem?_append_left h2, List.getElem?_eq_getElem h2]
      exact (ho _ (List.getElem_mem h2)).2 σ hσl hσt
    · have key : ∀ L : List It, (∀ it ∈ L, it ∈ N) → (L.flatMap fun it => it.os.map fun _ => n0 + pos it).map (fun h => ((os0 ++ osL D).getD h .dead).ren σ) = osL L := by
        intro L
        induction L with
        | nil => intro _; rfl
        | cons a L ih =>
          intro hs
          rw [List.flatMap_cons, List.map_append, ih fun it hit => hs it (by simp [hit])]
          show _ = a.os ++ osL L
          congr 1
          by_cases hv : ∃ z, a.q = .val z
          · obtain ⟨z, hz⟩ := hv
            rw [it_os0 hz]; rfl
          · obtain ⟨o, eo⟩ := it_os1 fun z hz => hv ⟨z, hz⟩
            rw [eo]
            show [((os0 ++ osL D).getD (n0 + pos a) .dead).ren σ] = [o]
            rw [List.getD_eq_getElem?_getD, hobj a (hs a (by simp)) o eo]
            congr 1
            exact ((hN a (hs a (by simp))).1 o (by rw [eo]; simp)).2 σ hσl hσt
      exact key N fun it h => h
  refine Turns.fits (σ := σ) ⟨⟨hσn, fun h hh => ?_⟩, ⟨by show env0.n = (upsL env0 D n0).n; rw [upsL_n], ?_⟩, by rw [hsel]; exact leO_refl _, ?_, ?_⟩
  · rcases List.mem_append.1 hh with hh | hh
    · have := List.mem_range.1 hh; rw [List.length_append]; omega
    · obtain ⟨it, hit, hh⟩ := List.mem_flatMap.1 hh
      obtain ⟨o, ho', rfl⟩ := List.mem_map.1 hh
      have q1 : ∃ o, it.os = [o] := by
        refine it_os1 fun z hz => ?_
        rw [it_os0 hz] at ho'; cases ho'
      obtain ⟨o2, eo2⟩ := q1
      exact (List.getElem?_eq_some_iff.1 (hobj it hit o2 eo2)).1
  · refine leM_app (leM_of fun p hp' => ?_) (leM_of fun p hp' => ?_)
    · obtain ⟨A, B, it, hNe, rfl⟩ := mem_canL hp'
      have hit : it ∈ N := by rw [hNe]; simp
      obtain ⟨A', B', hD, hpa⟩ := hpos it hit
      have hdB : it.d ∉ B'.map (·.d) := by
        rw [hD, List.map_append, List.map_cons] at hDd
        exact (List.nodup_cons.1 (List.nodup_append.1 hDd).2.1).1
      rw [fd_mp, hD, upsL_at it A' B' env0 _ (hdn it hit) hdB]
      show some ((it.r (n0 + (osL A').length)).ren σ) = some (it.r (n0 + (osL A).length))
      congr 1
      by_cases hv : ∃ z, it.q = .val z
      · obtain ⟨z, hz⟩ := hv
        rw [r_val hz, r_val hz]
        exact ((hN it hit).2 z hz).2 σ
      · have hv' : ∀ z, it.q ≠ .val z := fun z hz => hv ⟨z, hz⟩
        rw [← hpa]
        exact r_ren hv' (ixOf_of hσn (hσk A B it hNe (it_os1 hv')))
    · obtain ⟨k1, k2, k3, k4⟩ := hk p hp'
      rw [fd_mp, upsL_fd _ _ _ _ (fun h => k2 ((hp.map (·.d)).mem_iff.1 h)), k1]
      show some (p.2.ren σ) = some p.2
      rw [k4]
  · show (⟨env0.n, (canL N n0 ++ kept).map _⟩ : Env) = _
    congr 1
    rw [List.length_append, List.map_congr_left (g := id) fun p hp' => ?_, List.map_id]
    rcases List.mem_append.1 hp' with hp' | hp'
    · obtain ⟨A, B, it, hNe, rfl⟩ := mem_canL hp'
      have hit : it ∈ N := by rw [hNe]; simp
      show (it.d, (it.r (n0 + (osL A).length)).lim _) = _
      by_cases hv : ∃ z, it.q = .val z
      · obtain ⟨z, hz⟩ := hv
        rw [r_val hz, ((hN it hit).2 z hz).1]; rfl
      · have hv' : ∀ z, it.q ≠ .val z := fun z hz => hv ⟨z, hz⟩
        obtain ⟨o, eo⟩ := it_os1 hv'
        have hlt : (osL A).length < (osL N).length := by
          have := osL_at (A := A) (B := B) eo
          rw [← hNe] at this
          exact (List.getElem?_eq_some_iff.1 this).1
        rw [r_lim hv' (by omega)]; rfl
    · obtain ⟨k1, k2, k3, k4⟩ := hk p hp'
      show (p.1, p.2.lim _) = _
      rw [k3]; rfl
  · rw [List.length_append, List.map_congr_left (g := id) fun o ho' => ?_, List.map_id]
    rcases List.mem_append.1 ho' with ho' | ho'
    · exact (ho o ho').1
    · obtain ⟨it, hit, ho'⟩ := List.mem_flatMap.1 ho'
      exact ((hN it hit).1 o ho').1
/-- The operations N in whatever order: the state after them in the order of N is enough, and that after N' of them, where others may come up. -/
theorem AAnyG.news (N N' : List It) (kept : List (Nat × AV)) {listed : List Bool} {fuel fuel' fuel2 : Nat} (hf : fuel' = fuel + N.length) (hf2 : fuel2 = fuel + (N.length - N'.length)) (hst : ∀ it ∈ N, NStep P qs l env0 os0 N it ∨ NStepQ P qs l env0 os0 N it) (hnd : (N.map (·.i)).Nodup)
    (hds : (N.map (·.d)).Nodup) (hdn : ∀ it ∈ N, it.d < env0.n) (hl0 : ∀ it ∈ N, listed.getD it.i true = false) (hN' : N'.Sublist N)
    (hrd : (subs (N.map (·.i))).all (fun S => !depOk l (N.map (·.i)) S || (S.length == N.length || (N'.map (·.i)).isPerm S || chkR l listed (N.map (·.i)) S)) = true)
    (hk : ∀ p ∈ kept, env0.fd p.1 = some p.2 ∧ p.1 ∉ N.map (·.d) ∧ ∀ M, p.2.lim M = p.2 ∧ ∀ σ, p.2.ren σ = p.2)
    (ho : ∀ M, os0.length ≤ M → ∀ o ∈ os0, Clo os0.length M o) (hN : ∀ M, ∀ it ∈ N, CloI os0.length M it)
    (hstop : AAnyG P qs l fuel2 (lsD listed (N'.map (·.i))) K ⟨env0.n, canL N' os0.length ++ kept⟩ (os0 ++ osL N'))
    (hfin : AAnyG P qs l fuel (lsD listed (N.map (·.i))) K ⟨env0.n, canL N os0.length ++ kept⟩ (os0 ++ osL N)) : AAnyG P qs l fuel' listed K env0 os0 := by
  subst hf hf2
  have hnN : (N'.map (·.i)).Nodup := hnd.sublist (hN'.map _)
  have := AAnyG.newsRun (K := K) (fuel := fuel) (N' := N') (fun z hz => hN'.subset hz) hnN hst hnd hds hdn hl0 hrd (fun D hp => ?_) (fun D hp => ?_) N.length [] N rfl (by simp) (fun k hk => by cases hk)
  · simpa [lsD, upsL, osL] using this
  · rw [lsD_congr (B := N'.map (·.i)) fun k => (hp.map (·.i)).mem_iff]
    refine AAnyG.turns (news_turn hp hnN (hds.sublist (hN'.map _)) (fun it hit => hdn it (hN'.subset hit)) (fun p hp' => ?_) (ho _ (Nat.le_add_right _ _)) fun it hit => hN _ it (hN'.subset hit)) hstop
    obtain ⟨k1, k2, k3⟩ := hk p hp'
    exact ⟨k1, fun h => k2 ((hN'.map (·.d)).subset h), (k3 _).1, (k3 0).2⟩
  · rw [lsD_congr (B := N.map (·.i)) fun k => (hp.map (·.i)).mem_iff]
    refine AAnyG.turns (news_turn hp hnd hds hdn (fun p hp' => ?_) (ho _ (Nat.le_add_right _ _)) (hN _)) hfin
    obtain ⟨k1, k2, k3⟩ := hk p hp'
    exact ⟨k1, k2, (k3 _).1, (k3 0).2⟩
theorem all_nil {α : Type} {p : α → Prop} : ∀ x ∈ ([] : List α), p x := fun _ h => by cases h
theorem all_cons {α : Type} {p : α → Prop} {a : α} {l : List α} (h : p a) (hs : ∀ x ∈ l, p x) : ∀ x ∈ a :: l, p x := fun x hx => by
  rcases List.mem_cons.1 hx with rfl | hx
  · exact h
  · exact hs x hx
theorem clo_own {n0 M i d : Nat} {o : AO} (h : Clo n0 M o) : CloI n0 M ⟨i, d, .own o⟩ := ⟨fun x hx => by simp [It.os] at hx; subst hx; exact h, fun a e => by cases e⟩
theorem clo_ptr {n0 M i d : Nat} {o : AO} (h : Clo n0 M o) : CloI n0 M ⟨i, d, .ptr o⟩ := ⟨fun x hx => by simp [It.os] at hx; subst hx; exact h, fun a e => by cases e⟩
theorem clo_val {n0 M i d : Nat} {a : AV} (h : a.lim M = a) (h2 : ∀ σ, a.ren σ = a) : CloI n0 M ⟨i, d, .val a⟩ := ⟨fun x hx => by simp [It.os] at hx, fun b e => by cases e; exact ⟨h, h2⟩⟩
theorem clo_keep {n0 M n : Nat} {K : Kp} (h : n ≤ n0) (h2 : n ≤ M) : Clo n0 M (.keep n K) := by
  refine ⟨by simp only [AO.lim]; rw [if_pos h2], fun σ h3 h4 => ?_⟩
  simp only [AO.ren]
  rw [if_pos]
  refine ⟨by omega, ?_⟩
  have := congrArg (List.take n) h4
  rw [List.take_take, Nat.min_eq_left h, List.take_range, Nat.min_eq_left h] at this
  exact this
theorem kep_cons {ds : List Nat} {k : Nat} {a : AV} {N : List (Nat × AV)} (h1 : env0.fd k = some a) (h2 : ds.contains k = false) (h3 : ∀ M, a.lim M = a ∧ ∀ σ, a.ren σ = a) (hs : ∀ p ∈ N, env0.fd p.1 = some p.2 ∧ p.1 ∉ ds ∧ ∀ M, p.2.lim M = p.2 ∧ ∀ σ, p.2.ren σ = p.2) :
    ∀ p ∈ (k, a) :: N, env0.fd p.1 = some p.2 ∧ p.1 ∉ ds ∧ ∀ M, p.2.lim M = p.2 ∧ ∀ σ, p.2.ren σ = p.2 := all_cons ⟨h1, by simpa using h2, h3⟩ hs
end
end Go.Proofs.Ytlkhcelodcneiaa
/-
  All branch determinants, walked. Condition: a forest of at most 40 vertices.
-/
namespace Go.Proofs.Ytlkhcelodcneiaa
open Go Go.RowKit
attribute [local irreducible] AWp AOps ResIs Ret1 QOp LOp COp AFnV AFn Imms LeE LeO
set_option maxHeartbeats 1000000
set_option linter.unusedSimpArgs false
set_option linter.unusedVariables false

theorem brF_len (n : Nat) (near : Int → List Int) (W : List Int) : ∀ i, (brF n near W i).2.length ≤ i
  | 0 => Nat.le_refl _
  | i + 1 => by
    have ih := brF_len n near W i
    rw [brF]
    split
    · omega
    · simp only [List.length_append, List.length_cons, List.length_nil]; omega

set_option maxHeartbeats 16000000 in
theorem branchDeterminants_c (W : List Int) (E : List (List Int)) (h : GrF W E) :
    AFnC Try.prog 58 [.agg [.ints W, .intss E]] [] (fun r os => r = .tup [.own 0, .own 1, .own 2, .b (!(brF W.length (nearL E) W W.length).1.l)] ∧
      os = [.sli 2 (brF W.length (nearL E) W W.length).1.f, .sli 2 (brF W.length (nearL E) W W.length).1.g, .sli 2 (brF W.length (nearL E) W W.length).2]) := by
  have hn := h.n
  have hF := h.fo.fst
  have hnb := neighboursOf_c W E h
  have hrun := fun i (hi : i ≤ W.length) => br_run (W := W) hF h.w i hi
  have e0 : (⟨List.replicate (W.length : Int).toNat 0, List.replicate (W.length : Int).toNat 0, List.replicate (W.length : Int).toNat false, false⟩ : WS) = (brF W.length (nearL E) W 0).1 := by rw [Int.toNat_natCast]; rfl
  (refine AFnC.start Try.func58 Try.ntmps58 rfl (by kernel_rfl) fun K => ?_; simp only [Env.start, enumF, List.map_cons, List.map_nil, AV.sh, List.length_cons, List.length_nil, Nat.reduceAdd, Nat.reduceSub, List.cons_append, List.nil_append])
  repeat' (first | (apply AOps.nil; try simp only [List.nil_append, List.cons_append, List.set_cons_zero, List.set_cons_succ, List.length_cons, List.length_nil, Nat.reduceAdd, AV.sh, AV.sh1, AV.sh0, AO.sh, List.map_cons, List.map_nil, Nat.zero_add, Nat.add_zero, setAll]) | (apply w_assign; exact rfl; exact rfl) | apply AWp.seq | apply AWp.region | (apply w_len; exact rfl; exact rfl; first | exact .ints _ | exact .intss _ | exact .sli rfl | exact .sls rfl | exact .slr rfl | exact .orow rfl | exact .nil) | ((first | apply w_ld | apply w_fa); iterate 3 exact rfl) | ((apply w_boxa); iterate 2 exact rfl) | (apply w_ldb; iterate 5 exact rfl))
  refine AWp.regionG [] (by kernel_rfl) (envC := ⟨50, [(6, .i W.length), (7, .optr 6 0)]⟩) (osC := [.keep 1 K, .bx 29 [.ints W, .intss E], .sls 22 2 (nbs W E), .sli 2 (brF W.length (nearL E) W 0).1.f, .sli 2 (brF W.length (nearL E) W 0).1.g, .slr 4 (bL (brF W.length (nearL E) W 0).1.s), .bx 98 [.ints W, .own 2, .own 3, .own 4, .own 5, .b (brF W.length (nearL E) W 0).1.l]]) rfl (by first | exact rfl | (simp [AO.lim, AV.lim, bL_lim]; done)) ?_ ?_
  · rw [← e0]
    repeat' (first | (apply AOps.nil; try simp only [List.nil_append, List.cons_append, List.set_cons_zero, List.set_cons_succ, List.length_cons, List.length_nil, Nat.reduceAdd, AV.sh, AV.sh1, AV.sh0, AO.sh, List.map_cons, List.map_nil, Nat.zero_add, Nat.add_zero, setAll]) | (apply w_move; exact rfl; exact rfl) | (apply AAnyG.takeW; exact rfl; exact rfl; kernel_rfl; kernel_rfl) | ((apply w_fa); iterate 3 exact rfl))
    refine AAnyG.news (fuel := 2) (fuel2 := 3) [⟨1, 14, .val (.ints W)⟩, ⟨2, 15, .val (.agg [.ints W, .intss E])⟩, ⟨3, 16, .own (.sls 22 2 (nbs W E))⟩, ⟨5, 18, .own (.sli 2 (List.replicate (W.length : Int).toNat 0))⟩, ⟨7, 20, .own (.sli 2 (List.replicate (W.length : Int).toNat 0))⟩, ⟨9, 22, .own (.slr 4 (bL (List.replicate (W.length : Int).toNat false)))⟩, ⟨11, 7, .ptr (.bx 98 [.val (.slice none 0 0), .val (.slice none 0 0), .val (.slice none 0 0), .val (.slice none 0 0), .val (.slice none 0 0), .val (.bool false)])⟩]
      [⟨1, 14, .val (.ints W)⟩, ⟨2, 15, .val (.agg [.ints W, .intss E])⟩, ⟨3, 16, .own (.sls 22 2 (nbs W E))⟩, ⟨5, 18, .own (.sli 2 (List.replicate (W.length : Int).toNat 0))⟩, ⟨7, 20, .own (.sli 2 (List.replicate (W.length : Int).toNat 0))⟩, ⟨9, 22, .own (.slr 4 (bL (List.replicate (W.length : Int).toNat false)))⟩] [(6, .i W.length)] rfl rfl
      (all_cons (.inr ⟨_, rfl, rfl, fun env os K' hE hO hd hK => ?_⟩) (all_cons (.inr ⟨_, rfl, rfl, fun env os K' hE hO hd hK => ?_⟩) (all_cons (.inl ⟨_, rfl, rfl, fun env os K' hE hO hd hK => ?_⟩) (all_cons (.inl ⟨_, rfl, rfl, fun env os K' hE hO hd hK => ?_⟩) (all_cons (.inl ⟨_, rfl, rfl, fun env os K' hE hO hd hK => ?_⟩) (all_cons (.inl ⟨_, rfl, rfl, fun env os K' hE hO hd hK => ?_⟩) (all_cons (.inl ⟨_, rfl, rfl, fun env os K' hE hO hd hK => ?_⟩) all_nil)))))))
      (show ([1, 2, 3, 5, 7, 9, 11] : List Nat).Nodup by decide) (show ([14, 15, 16, 18, 20, 22, 7] : List Nat).Nodup by decide) ?_ ?_ (.cons_cons _ (.cons_cons _ (.cons_cons _ (.cons_cons _ (.cons_cons _ (.cons_cons _ (.cons _ .slnil))))))) (by kernel_rfl) (kep_cons rfl rfl (fun _ => ⟨rfl, fun _ => rfl⟩) all_nil) (fun M hM => all_cons (clo_keep (Nat.le_of_ble_eq_true rfl) (Nat.le_trans (Nat.le_of_ble_eq_true rfl) hM)) (all_cons ⟨rfl, fun _ _ _ => rfl⟩ all_nil))
      (fun M => all_cons (clo_val rfl fun _ => rfl) (all_cons (clo_val rfl fun _ => rfl) (all_cons (clo_own ⟨rfl, fun _ _ _ => rfl⟩) (all_cons (clo_own ⟨rfl, fun _ _ _ => rfl⟩) (all_cons (clo_own ⟨rfl, fun _ _ _ => rfl⟩) (all_cons (clo_own ⟨congrArg (AO.slr _) (bL_lim _ _), fun _ _ _ => congrArg (AO.slr _) (bL_ren _ _)⟩) (all_cons (clo_ptr ⟨rfl, fun _ _ _ => rfl⟩) all_nil))))))) ?_ ?_
    · obtain ⟨t, rfl⟩ := hO
      refine w_ldb rfl rfl ((hE.2 13 (show 13 ∉ ([14, 15, 16, 18, 20, 22, 7] : List Nat) by decide)).trans rfl) rfl rfl (AOps.nil ?_)
      simpa [It.os, It.r] using hK
    · obtain ⟨t, rfl⟩ := hO
      refine w_ldst rfl rfl ((hE.2 1 (show 1 ∉ ([14, 15, 16, 18, 20, 22, 7] : List Nat) by decide)).trans rfl) rfl rfl ?_
      refine AOps.nil ?_
      simpa [It.os, It.r] using hK
    · have h15 := hd ⟨2, 15, .val (.agg [.ints W, .intss E])⟩ (by simp) _ rfl rfl
      refine w_callm hnb (im_cons h15 (im_agg2 (.ints _) (.intss _)) im_nil) ?_
      rintro r os0 ⟨rfl, rfl⟩
      refine AOps.nil ?_
      simpa [It.os, It.r, AV.sh, AO.sh] using hK
    · refine w_mki ((hE.2 17 (show 17 ∉ ([14, 15, 16, 18, 20, 22, 7] : List Nat) by decide)).trans rfl) ((hE.2 17 (show 17 ∉ ([14, 15, 16, 18, 20, 22, 7] : List Nat) by decide)).trans rfl) (by omega) (by omega) (by omega) rfl ?_
      exact AOps.nil hK
    · refine w_mki ((hE.2 19 (show 19 ∉ ([14, 15, 16, 18, 20, 22, 7] : List Nat) by decide)).trans rfl) ((hE.2 19 (show 19 ∉ ([14, 15, 16, 18, 20, 22, 7] : List Nat) by decide)).trans rfl) (by omega) (by omega) (by omega) rfl ?_
      exact AOps.nil hK
    · refine w_mkb ((hE.2 21 (show 21 ∉ ([14, 15, 16, 18, 20, 22, 7] : List Nat) by decide)).trans rfl) ((hE.2 21 (show 21 ∉ ([14, 15, 16, 18, 20, 22, 7] : List Nat) by decide)).trans rfl) (by omega) (by omega) (by omega) rfl ?_
      exact AOps.nil hK
    · refine w_alst rfl rfl ?_
      exact AOps.nil hK
    · exact all_cons (show 14 < 50 by decide) (all_cons (show 15 < 50 by decide) (all_cons (show 16 < 50 by decide) (all_cons (show 18 < 50 by decide) (all_cons (show 20 < 50 by decide) (all_cons (show 22 < 50 by decide) (all_cons (show 7 < 50 by decide) all_nil))))))
    · exact all_cons rfl (all_cons rfl (all_cons rfl (all_cons rfl (all_cons rfl (all_cons rfl (all_cons rfl all_nil))))))
    all_goals simp only [canL, It.r, It.os, osL, List.flatMap_cons, List.flatMap_nil, List.length_cons, List.length_nil, List.cons_append, List.nil_append, Nat.reduceAdd, Nat.zero_add, Nat.add_zero, List.append_nil]
    all_goals repeat' (first | (apply AOps.nil; try simp only [List.nil_append, List.cons_append, List.set_cons_zero, List.set_cons_succ, List.length_cons, List.length_nil, Nat.reduceAdd, AV.sh, AV.sh1, AV.sh0, AO.sh, List.map_cons, List.map_nil, Nat.zero_add, Nat.add_zero, setAll]) | (apply w_build56; exact rfl; exact rfl; exact rfl; exact rfl; exact rfl; exact rfl; exact rfl; (exact one_ints); (exact one_own rfl True.intro); (exact one_own rfl True.intro); (exact one_own rfl True.intro); (exact one_own rfl True.intro)) | apply AllOfG.nil | (apply AllOfG.consS; exact rfl; exact rfl) | (apply AAnyG.takeW; exact rfl; exact rfl; kernel_rfl; kernel_rfl) | (apply AAnyG.all; exact rfl) | (apply AAnyG.done; exact rfl) | (apply w_alst; iterate 2 exact rfl) | (apply w_stst; iterate 5 exact rfl))
    all_goals (apply Or.inl; refine ⟨lee rfl ?_, ?_, rfl, (by first | exact rfl | (simp [AO.lim, AV.lim, bL_lim]; done))⟩; (focus ((repeat (first | exact le_nil | refine le_eq rfl rfl ?_)); done)); (focus ((repeat (first | exact lo_nil | refine lo_eq rfl ?_)); done)))
  refine AWp.turns (Turns.freeze (k := 2) rfl) ?_
  simp only [Env.mp, List.map_cons, List.map_nil, List.set_cons_zero, List.set_cons_succ, AV.frz, AV.frz1, AO.frz, bL_frz, reduceIte, Nat.reduceEqDiff, Nat.zero_ne_one, Nat.one_ne_zero]
  repeat' (first | (apply AOps.nil; try simp only [List.nil_append, List.cons_append, List.set_cons_zero, List.set_cons_succ, List.length_cons, List.length_nil, Nat.reduceAdd, AV.sh, AV.sh1, AV.sh0, AO.sh, List.map_cons, List.map_nil, Nat.zero_add, Nat.add_zero, setAll]) | (apply w_move; exact rfl; exact rfl) | (apply w_assign; exact rfl; exact rfl) | apply AWp.seq | apply AWp.region | apply AWp.block | (apply w_bs0; iterate 1 exact rfl))
  refine AWp.loop (ι := Nat) (fun i => ⟨50, [(6, .i W.length), (7, .optr 6 0), (8, .own 7), (25, .i W.length), (26, .i i)]⟩) (fun i => [.keep 1 K, .bx 29 [.ints W, .intss E], .dead, .sli 2 (brF W.length (nearL E) W i).1.f, .sli 2 (brF W.length (nearL E) W i).1.g, .slr 4 (bL (brF W.length (nearL E) W i).1.s), .bx 98 [.ints W, .intss (nbs W E), .own 3, .own 4, .own 5, .b (brF W.length (nearL E) W i).1.l], .sli 2 (brF W.length (nearL E) W i).2])
    (fun i => i ≤ W.length) (fun i => W.length - i) 0 (by omega) ⟨lee rfl (by (repeat (first | exact le_nil | refine le_eq rfl rfl ?_))), by (repeat (first | exact lo_nil | refine lo_dead ?_ | refine lo_eq rfl ?_)), rfl, (by first | exact rfl | (simp [AO.lim, AV.lim, bL_lim]; done))⟩ ?_
  intro i i0
  have hi0 := hrun i i0
  have ok := hi0.ok
  have cn := hi0.cnt
  have ls := ok.ls
  have lf := ok.lf
  have lg := ok.lg
  by_cases hi : i < W.length
  · have hstep : brF W.length (nearL E) W (i + 1) = if (brF W.length (nearL E) W i).1.sn (i : Nat) = true then brF W.length (nearL E) W i else (visF W (nearL E) W.length (i : Nat) (brF W.length (nearL E) W i).1, (brF W.length (nearL E) W i).2 ++ [(i : Int)]) := rfl
    have hbl : ((brF W.length (nearL E) W i).2.length + [(i : Int)].length) * 8 ≤ 140737488355328 := by
      have := brF_len W.length (nearL E) W i
      simp only [List.length_cons, List.length_nil]; omega
    generalize brF W.length (nearL E) W i = b at *
    cases hsc : b.1.sn (i : Nat) with
    | true =>
      rw [hsc, if_pos rfl] at hstep
      rw [sn_get] at hsc
      repeat' (first | (apply AOps.nil; try simp only [List.nil_append, List.cons_append, List.set_cons_zero, List.set_cons_succ, List.length_cons, List.length_nil, Nat.reduceAdd, AV.sh, AV.sh1, AV.sh0, AO.sh, List.map_cons, List.map_nil, Nat.zero_add, Nat.add_zero, setAll]) | (apply w_move; exact rfl; exact rfl) | (apply w_assign; exact rfl; exact rfl) | apply AWp.seq | apply AWp.region | ((apply AWp.condP; exact rfl) <;> intro h) | ((apply AWp.condB; exact rfl) <;> intro h) | apply AWp.block | apply AWp.exit | apply AWp.skip | (apply w_idxb; iterate 4 exact rfl) | (apply w_ldbl; iterate 4 exact rfl) | ((first | apply w_not | apply w_bs1); iterate 2 exact rfl) | ((first | apply w_lss | apply w_add | apply w_ld | apply w_fa); iterate 3 exact rfl) | omega | (apply w_ldb; iterate 5 exact rfl) | (apply w_app; exact rfl; exact rfl; exact rfl; exact rfl; (exact .sli rfl); rotate_left 1; simp only [Env.mp, List.map_cons, List.map_nil, List.set_cons_zero, List.set_cons_succ, AV.kill, AV.kill1, AO.kill, bL_kill, AV.noRow, AV.noRow1, AO.via, reduceIte, Nat.reduceEqDiff, Nat.reduceLT, Env.up, Nat.zero_ne_one, Nat.one_ne_zero, Nat.reduceAdd, List.cons_append, List.nil_append]; rotate_left 1) | (apply inI_of <;> omega))
      all_goals try (exfalso; simp_all; done)
      exact ⟨i + 1, by omega, by omega, by rw [hstep]; exact ⟨lee rfl (by (repeat (first | exact le_nil | refine le_eq rfl rfl ?_))), by (repeat (first | exact lo_nil | refine lo_dead ?_ | refine lo_eq rfl ?_)), rfl, (by first | exact rfl | (simp [AO.lim, AV.lim, bL_lim]; done))⟩⟩
    | false =>
      rw [hsc, if_neg (by decide)] at hstep
      have hcall := visit_c W E h W.length (i : Nat) b.1 ok cn ⟨by omega, by omega⟩ hsc
      rw [sn_get] at hsc
      generalize visF W (nearL E) W.length (i : Nat) b.1 = u at *
      repeat' (first | (apply AOps.nil; try simp only [List.nil_append, List.cons_append, List.set_cons_zero, List.set_cons_succ, List.length_cons, List.length_nil, Nat.reduceAdd, AV.sh, AV.sh1, AV.sh0, AO.sh, List.map_cons, List.map_nil, Nat.zero_add, Nat.add_zero, setAll]) | (apply w_move; exact rfl; exact rfl) | (apply w_assign; exact rfl; exact rfl) | apply AWp.seq | apply AWp.region | ((apply AWp.condP; exact rfl) <;> intro h) | ((apply AWp.condB; exact rfl) <;> intro h) | apply AWp.block | apply AWp.exit | apply AWp.skip | (apply w_idxb; iterate 4 exact rfl) | (apply w_ldbl; iterate 4 exact rfl) | ((first | apply w_not | apply w_bs1); iterate 2 exact rfl) | ((first | apply w_lss | apply w_add | apply w_ld | apply w_fa); iterate 3 exact rfl) | (apply w_callb (hcall); exact rfl; exact rfl; exact rfl; exact rfl; exact rfl; exact rfl; exact rfl; (exact rdI_ints _); (exact rdN_intss _); exact rfl; try simp only [List.nil_append, List.cons_append, List.set_cons_zero, List.set_cons_succ, List.length_cons, List.length_nil, Nat.reduceAdd, AV.sh, AV.sh1, AV.sh0, AO.sh, List.map_cons, List.map_nil, Nat.zero_add, Nat.add_zero, setAll]) | omega | (apply w_ldb; iterate 5 exact rfl) | (apply w_app; exact rfl; exact rfl; exact rfl; exact rfl; (exact .sli rfl); rotate_left 1; simp only [Env.mp, List.map_cons, List.map_nil, List.set_cons_zero, List.set_cons_succ, AV.kill, AV.kill1, AO.kill, bL_kill, AV.noRow, AV.noRow1, AO.via, reduceIte, Nat.reduceEqDiff, Nat.reduceLT, Env.up, Nat.zero_ne_one, Nat.one_ne_zero, Nat.reduceAdd, List.cons_append, List.nil_append]; rotate_left 1) | (apply inI_of <;> omega))
      all_goals try (exfalso; simp_all; done)
      exact ⟨i + 1, by omega, by omega, by rw [hstep]; exact ⟨lee rfl (by (repeat (first | exact le_nil | refine le_eq rfl rfl ?_))), by (repeat (first | exact lo_nil | refine lo_dead ?_ | refine lo_eq rfl ?_)), rfl, (by first | exact rfl | (simp [AO.lim, AV.lim, bL_lim]; done))⟩⟩
  · have ei : i = W.length := by omega
    subst ei
    repeat' (first | (apply AOps.nil; try simp only [List.nil_append, List.cons_append, List.set_cons_zero, List.set_cons_succ, List.length_cons, List.length_nil, Nat.reduceAdd, AV.sh, AV.sh1, AV.sh0, AO.sh, List.map_cons, List.map_nil, Nat.zero_add, Nat.add_zero, setAll]) | (apply w_move; exact rfl; exact rfl) | (apply w_assign; exact rfl; exact rfl) | apply AWp.seq | apply AWp.region | ((apply AWp.condP; exact rfl) <;> intro h) | apply AWp.block | apply AWp.exit | apply AWp.skip | ((first | apply w_lss | apply w_ld | apply w_fa); iterate 3 exact rfl) | omega)
    all_goals try (exfalso; omega)
    refine AWp.regionG [] (by kernel_rfl) (envC := ⟨50, [(2, .own 1), (3, .own 2), (4, .own 3), (5, .b (!(brF W.length (nearL E) W W.length).1.l))]⟩) (osC := [.keep 1 K, .sli 2 (brF W.length (nearL E) W W.length).1.f, .sli 2 (brF W.length (nearL E) W W.length).1.g, .sli 2 (brF W.length (nearL E) W W.length).2]) rfl (by first | exact rfl | (simp [AO.lim, AV.lim, bL_lim]; done)) ?_ ?_
    · repeat' (first | (apply AOps.nil; try simp only [List.nil_append, List.cons_append, List.set_cons_zero, List.set_cons_succ, List.length_cons, List.length_nil, Nat.reduceAdd, AV.sh, AV.sh1, AV.sh0, AO.sh, List.map_cons, List.map_nil, Nat.zero_add, Nat.add_zero, setAll]) | (apply w_move; exact rfl; exact rfl) | (apply w_assign; exact rfl; exact rfl) | (apply AAnyG.takeW; exact rfl; exact rfl; kernel_rfl; kernel_rfl) | (apply AAnyG.takeL; exact rfl; exact rfl; kernel_rfl) | (apply AAnyG.done; exact rfl) | ((apply w_not); iterate 2 exact rfl) | ((first | apply w_ld | apply w_fa); iterate 3 exact rfl) | (apply w_ldb; iterate 5 exact rfl))
      all_goals (apply Or.inr; refine ⟨[0, 3, 4, 7], ⟨by decide, fun x hx => Nat.lt_of_lt_of_le ((by decide : ∀ x ∈ ([0, 3, 4, 7] : List Nat), x < 8) x hx) (Nat.le_of_ble_eq_true rfl)⟩, lee rfl ?_, ?_, rfl, (by first | exact rfl | (simp [AO.lim, AV.lim, bL_lim]; done))⟩; (focus ((repeat (first | exact le_nil | refine le_eq rfl rfl ?_)); done)); (focus ((repeat (first | exact lo_nil | refine lo_eq rfl ?_)); done)))
    repeat' (apply AWp.ret)
    refine ⟨_, _, .tup [.own 0, .own 1, .own 2, .b (!(brF W.length (nearL E) W W.length).1.l)], Turns.refl, ResIs.a4 rfl rfl rfl rfl rfl, ?_, ⟨rfl, rfl⟩, ?_⟩
    · exact all_cons trivial (all_cons trivial (all_cons trivial (all_cons trivial all_nil)))
    · intro o ho
      simp only [List.mem_cons, List.not_mem_nil, or_false] at ho
      rcases ho with rfl | rfl | rfl
      · trivial
      · trivial
      · trivial
end Go.Proofs.Ytlkhcelodcneiaa
/-
  Determinants, walked: the program. No condition on the graph.
-/
namespace Go.Proofs.Ytlkhcelodcneiaa
open Go Go.RowKit
attribute [local irreducible] AWp AOps ResIs Ret1 QOp LOp COp AFnV AFn Imms LeE LeO
set_option maxHeartbeats 1000000
set_option linter.unusedSimpArgs false
set_option linter.unusedVariables false

/-- A product over roots. -/
def dtF (F : List Int) : List Int → Int × Bool → Int × Bool
  | [], s => s
  | v :: vs, s => dtF F vs (if s.2 = true then (tmV s.1 (geti F v), tok s.1 (geti F v)) else s)
theorem dtF_app (F : List Int) : ∀ (a b : List Int) (s : Int × Bool), dtF F (a ++ b) s = dtF F b (dtF F a s)
  | [], b, s => rfl
  | x :: a, b, s => dtF_app F a b _
theorem dtF_in (F : List Int) : ∀ (vs : List Int) (s : Int × Bool), inM s.1 → inM (dtF F vs s).1
  | [], s, h => h
  | v :: vs, s, h => by
    rw [dtF]
    apply dtF_in
    split
    · exact tmV_in _ _
    · exact h
theorem inM1 : inM 1 := by unfold inM; omega
variable {W : List Int} {E : List (List Int)}
theorem gr_lens (h : GrF W E) : (brF W.length (nearL E) W W.length).1.f.length = W.length ∧ (brF W.length (nearL E) W W.length).1.g.length = W.length ∧ (∀ x ∈ (brF W.length (nearL E) W W.length).1.f, inM x) := by
  have := (br_run h.fo.fst h.w W.length (Nat.le_refl _)).ok
  exact ⟨this.lf, this.lg, this.bf⟩

set_option maxHeartbeats 16000000 in
theorem determinant_c (W : List Int) (E : List (List Int)) (h : GrF W E) : AFnV Try.prog 51 [.agg [.ints W, .intss E]] (.tuple #[.int .i64 (dtF (brF W.length (nearL E) W W.length).1.f (rts W.length (nearL E) W.length) (1, !(brF W.length (nearL E) W W.length).1.l)).1, .bool (dtF (brF W.length (nearL E) W W.length).1.f (rts W.length (nearL E) W.length) (1, !(brF W.length (nearL E) W W.length).1.l)).2]) := by
  have hb := branchDeterminants_c W E h
  have hn := h.n
  have hrs := (br_end (W := W) h.fo.fst h.w).1
  have hrn := rts_rng W.length (nearL E) W.length
  have hrl := rts_len W.length (nearL E) W.length
  obtain ⟨l1, l2, l3⟩ := gr_lens h
  rw [hrs] at hb
  generalize (brF W.length (nearL E) W W.length).1.f = F at *
  generalize (brF W.length (nearL E) W W.length).1.g = G at *
  generalize (brF W.length (nearL E) W W.length).1.l = l at *
  generalize rts W.length (nearL E) W.length = R at *
  (refine AFnV.start Try.func51 Try.ntmps51 rfl (by kernel_rfl) fun hk => ?_; simp only [Env.start, enumF, List.length_cons, List.length_nil, Nat.reduceAdd, Nat.reduceSub, List.cons_append, List.nil_append])
  repeat' (first | (apply AOps.nil; try simp only [List.nil_append, List.cons_append, List.set_cons_zero, List.set_cons_succ, List.length_cons, List.length_nil, Nat.reduceAdd, AV.sh, AV.sh1, AV.sh0, AO.sh, List.map_cons, List.map_nil, Nat.zero_add, Nat.add_zero, setAll]) | (apply w_move; exact rfl; exact rfl) | (apply w_assign; exact rfl; exact rfl) | apply AWp.seq | apply AWp.region | apply AWp.block | (apply w_len; exact rfl; exact rfl; first | exact .ints _ | exact .intss _ | exact .sli rfl | exact .sls rfl | exact .slr rfl | exact .orow rfl | exact .nil) | (apply w_callc [] (hb); exact rfl; (exact handed0); (focus ((repeat (first | exact imu_nil | refine imu_cons rfl (imu_agg2 (.ints _) (.intss _)) ?_)); done)); rintro r os0 ⟨rfl, rfl⟩; try simp only [List.nil_append, List.cons_append, List.set_cons_zero, List.set_cons_succ, List.length_cons, List.length_nil, Nat.reduceAdd, AV.sh, AV.sh1, AV.sh0, AO.sh, List.map_cons, List.map_nil, Nat.zero_add, Nat.add_zero, setAll]) | ((apply w_ext); iterate 3 exact rfl) | ((apply w_boxa); iterate 2 exact rfl) | (apply w_ldst; iterate 5 exact rfl))
  refine AWp.loop (ι := Nat) (fun i => ⟨37, [(4, .own 1), (7, .b (dtF F (R.take i) (1, !l)).2), (8, .i (dtF F (R.take i) (1, !l)).1), (18, .own 3), (19, .i R.length), (20, .i i)]⟩) (fun _ => [.bx 29 [.ints W, .intss E], .sli 2 F, .sli 2 G, .sli 2 R]) (fun i => i ≤ R.length) (fun i => R.length - i) 0 (by omega) ⟨lee rfl (by (repeat (first | exact le_nil | refine le_eq rfl rfl ?_))), by (repeat (first | exact lo_nil | refine lo_eq rfl ?_)), rfl, rfl⟩ ?_
  intro i i0
  have hin := dtF_in F (R.take i) (1, !l) inM1
  by_cases hi : i < R.length
  · have e1 : dtF F (R.take (i + 1)) (1, !l) = if (dtF F (R.take i) (1, !l)).2 = true then (tmV (dtF F (R.take i) (1, !l)).1 (geti F (geti R (i : Nat))), tok (dtF F (R.take i) (1, !l)).1 (geti F (geti R (i : Nat)))) else dtF F (R.take i) (1, !l) := by rw [take_geti hi, dtF_app]; rfl
    have hr0 := hrn (geti R (i : Nat)) (geti_mem (by omega) (by omega))
    generalize dtF F (R.take i) (1, !l) = s at *
    obtain ⟨d, ok⟩ := s
    have ht := times_c d (geti F (geti R (i : Nat))) hin (l3 _ (geti_mem (by omega) (by omega)))
    simp only at e1
    cases ok with
    | true =>
      rw [if_pos rfl] at e1
      repeat' (first | (apply AOps.nil; try simp only [List.nil_append, List.cons_append, List.set_cons_zero, List.set_cons_succ, List.length_cons, List.length_nil, Nat.reduceAdd, AV.sh, AV.sh1, AV.sh0, AO.sh, List.map_cons, List.map_nil, Nat.zero_add, Nat.add_zero, setAll]) | (apply w_move; exact rfl; exact rfl) | (apply w_assign; exact rfl; exact rfl) | apply AWp.seq | apply AWp.region | ((apply AWp.condP; exact rfl) <;> intro h) | (apply AWp.condT; exact rfl) | apply AWp.block | apply AWp.ret | apply AWp.exit | apply AWp.skip | (apply w_call (ht); exact rfl; exact rfl; focus ((repeat (first | exact im_nil | refine im_cons rfl (.val _) ?_)); done)) | omega | ((first | apply w_lss | apply w_add | apply w_idx | apply w_ld | apply w_extv); iterate 3 exact rfl) | (apply w_idxo; exact rfl; exact rfl; (exact .sli rfl); exact rfl) | (apply w_ldo; iterate 4 exact rfl) | (apply inI_of <;> omega) | (simp <;> omega))
      exact ⟨i + 1, by omega, by omega, by rw [e1]; exact ⟨lee rfl (by (repeat (first | exact le_nil | refine le_eq rfl rfl ?_))), by (repeat (first | exact lo_nil | refine lo_eq rfl ?_)), rfl, rfl⟩⟩
    | false =>
      rw [if_neg (by decide)] at e1
      repeat' (first | (apply AOps.nil; try simp only [List.nil_append, List.cons_append, List.set_cons_zero, List.set_cons_succ, List.length_cons, List.length_nil, Nat.reduceAdd, AV.sh, AV.sh1, AV.sh0, AO.sh, List.map_cons, List.map_nil, Nat.zero_add, Nat.add_zero, setAll]) | (apply w_move; exact rfl; exact rfl) | (apply w_assign; exact rfl; exact rfl) | apply AWp.seq | apply AWp.region | ((apply AWp.condP; exact rfl) <;> intro h) | (apply AWp.condF; exact rfl) | apply AWp.block | apply AWp.ret | apply AWp.exit | apply AWp.skip | omega | ((first | apply w_lss | apply w_add | apply w_idx | apply w_ld); iterate 3 exact rfl) | (apply w_idxo; exact rfl; exact rfl; (exact .sli rfl); exact rfl) | (apply w_ldo; iterate 4 exact rfl) | (apply inI_of <;> omega))
      exact ⟨i + 1, by omega, by omega, by rw [e1]; exact ⟨lee rfl (by (repeat (first | exact le_nil | refine le_eq rfl rfl ?_))), by (repeat (first | exact lo_nil | refine lo_eq rfl ?_)), rfl, rfl⟩⟩
  · have ei : i = R.length := by omega
    subst ei
    rw [List.take_length]
    repeat' (first | (apply AOps.nil; try simp only [List.nil_append, List.cons_append, List.set_cons_zero, List.set_cons_succ, List.length_cons, List.length_nil, Nat.reduceAdd, AV.sh, AV.sh1, AV.sh0, AO.sh, List.map_cons, List.map_nil, Nat.zero_add, Nat.add_zero, setAll]) | (apply w_move; exact rfl; exact rfl) | (apply w_assign; exact rfl; exact rfl) | apply AWp.seq | apply AWp.region | ((apply AWp.condP; exact rfl) <;> intro h) | apply AWp.block | apply AWp.ret | apply AWp.exit | apply AWp.skip | omega | ((apply w_lss); iterate 3 exact rfl))
    all_goals exact .vv2 Try.results51 rfl rfl

/-- The determinant and the code. -/
noncomputable def gdV (W : List Int) (E : List (List Int)) : Int × Bool := dtF (brF W.length (nearL E) W W.length).1.f (rts W.length (nearL E) W.length) (1, !(brF W.length (nearL E) W W.length).1.l)
end Go.Proofs.Ytlkhcelodcneiaa
/-
  Determinants, walked: the reference. No condition on the graph.
-/
namespace Go.Proofs.Ytlkhcelodcneiaa
open Go Go.RowKit
attribute [local irreducible] AWp AOps ResIs Ret1 QOp LOp COp AFnV AFn Imms LeE LeO
set_option maxHeartbeats 1000000
set_option linter.unusedSimpArgs false
set_option linter.unusedVariables false

theorem AFnC.mono {P : Program} {f : FuncId} {args : List AV} {objs : List AO} {Q Q' : AV → List AO → Prop} (h : AFnC P f args objs Q) (hq : ∀ r os, Q r os → Q' r os) : AFnC P f args objs Q' :=
  ⟨h.1, fun base w gs vs h1 h2 h3 h4 => (h.2 base w gs vs h1 h2 h3 h4).mono fun e w' ⟨v, r, os', gs', k1, k2, k3⟩ => ⟨v, r, os', gs', k1, hq _ _ k2, k3⟩⟩
theorem l11Branches_ok (W : List Int) (E : List (List Int)) (h : GrF W E) (hl : bdOk W.length (nearL E) W) : AFnC Try.prog 53 [.agg [.ints W, .intss E]] [] (fun r os => r = .tup [.own 0, .own 1, .b true] ∧ os = [.sli 2 (bdF W.length (nearL E) W), .sli 2 (bdG W.length (nearL E) W)]) :=
  (l11Branches_q W E h).mono fun r os hq => by
    rcases hq with ⟨_, h1, h2⟩ | ⟨h0, _⟩
    · exact ⟨h1, h2⟩
    · exact absurd hl h0
theorem l11Branches_lim (W : List Int) (E : List (List Int)) (h : GrF W E) (hl : ¬ bdOk W.length (nearL E) W) : AFnC Try.prog 53 [.agg [.ints W, .intss E]] [] (fun r os => r = .tup [.val (.slice none 0 0), .val (.slice none 0 0), .b false] ∧ os = []) :=
  (l11Branches_q W E h).mono fun r os hq => by
    rcases hq with ⟨h0, _⟩ | ⟨_, h1, h2⟩
    · exact absurd h0 hl
    · exact ⟨h1, h2⟩
end Go.Proofs.Ytlkhcelodcneiaa
/-
  The determinant out of the numbers of the branches. No condition.
-/
namespace Go.Proofs.Ytlkhcelodcneiaa
open Go Go.RowKit

theorem dtF_no (F : List Int) : ∀ (vs : List Int) (d : Int), (dtF F vs (d, false)).2 = false
  | [], _ => rfl
  | v :: vs, d => by rw [dtF, if_neg (by simp)]; exact dtF_no F vs d
theorem rts_pre (n : Nat) (near : Int → List Int) (i : Nat) : ∀ j, i ≤ j → ∃ t, rts n near j = rts n near i ++ t := by
  intro j hj
  induction hj with
  | refl => exact ⟨[], by simp⟩
  | step _ ih =>
    obtain ⟨t, ht⟩ := ih
    rw [rts]; split
    · exact ⟨t, ht⟩
    · exact ⟨t ++ [_], by rw [ht, List.append_assoc]⟩
noncomputable def dtS (W : List Int) (E : List (List Int)) : Int × Bool := dtF (bdF W.length (nearL E) W) (rts W.length (nearL E) W.length) (1, true)
theorem gdV_ok {W : List Int} {E : List (List Int)} (h : GrF W E) (hl : bdOk W.length (nearL E) W) : gdV W E = dtS W E := by
  have hend := br_end (W := W) h.fo.fst h.w
  have hl' : (brF W.length (nearL E) W W.length).1.l = false := by
    cases e : (brF W.length (nearL E) W W.length).1.l with
    | false => rfl
    | true => exact absurd hl (hend.2.1.1 e)
  unfold gdV dtS
  rw [hl', (hend.2.2 hl).1]; rfl
theorem gdV_lim {W : List Int} {E : List (List Int)} (h : GrF W E) (hl : ¬ bdOk W.length (nearL E) W) : (gdV W E).2 = false := by
  have hend := br_end (W := W) h.fo.fst h.w
  unfold gdV
  rw [hend.2.1.2 hl]
  exact dtF_no _ _ _

end Go.Proofs.Ytlkhcelodcneiaa
/-
  The determinant, walked: the reference. No condition on the graph.
-/
namespace Go.Proofs.Ytlkhcelodcneiaa
open Go Go.RowKit
attribute [local irreducible] AWp AOps ResIs Ret1 QOp LOp COp AFnV AFn Imms LeE LeO
set_option maxHeartbeats 1000000
set_option linter.unusedSimpArgs false
set_option linter.unusedVariables false

set_option maxHeartbeats 16000000 in
theorem l11Det_ok (W : List Int) (E : List (List Int)) (h : GrF W E) (hl : bdOk W.length (nearL E) W) : AFnV Try.prog 42 [.agg [.ints W, .intss E]] (.tuple #[.int .i64 (if (dtS W E).2 = true then (dtS W E).1 else 0), .bool (dtS W E).2]) := by
  have hb := l11Branches_ok W E h hl
  have hlab := l11Labels_c W E h
  have hidx := index_root W E h
  have hn := h.n
  have hF := h.fo.fst
  have hend := br_end (W := W) hF h.w
  have hFi : ∀ x ∈ bdF W.length (nearL E) W, inM x := by rw [← (hend.2.2 hl).1]; exact (gr_lens h).2.2
  have hlen : (labS W.length (nearL E) W.length).length = W.length := by
    obtain ⟨m, hL⟩ := labS_ok hF (by omega) W.length (Nat.le_refl _)
    exact hL.len
  have hfl : (bdF W.length (nearL E) W).length = W.length := by simp [bdF]
  have hres : dtS W E = dtF (bdF W.length (nearL E) W) (rts W.length (nearL E) W.length) (1, true) := rfl
  generalize dtS W E = res at *
  generalize bdF W.length (nearL E) W = F at *
  generalize bdG W.length (nearL E) W = G at *
  generalize labS W.length (nearL E) W.length = Lb at *
  (refine AFnV.start Try.func42 Try.ntmps42 rfl (by kernel_rfl) fun hk => ?_; simp only [Env.start, enumF, List.length_cons, List.length_nil, Nat.reduceAdd, Nat.reduceSub, List.cons_append, List.nil_append])
  repeat' (first | (apply AOps.nil; try simp only [List.nil_append, List.cons_append, List.set_cons_zero, List.set_cons_succ, List.length_cons, List.length_nil, Nat.reduceAdd, AV.sh, AV.sh1, AV.sh0, AO.sh, List.map_cons, List.map_nil, Nat.zero_add, Nat.add_zero, setAll]) | (apply w_move; exact rfl; exact rfl) | (apply w_assign; exact rfl; exact rfl) | apply AWp.seq | apply AWp.region | (apply AWp.condF; exact rfl) | apply AWp.block | apply AWp.skip | (apply w_callc [] (hb); exact rfl; (exact handed0); (focus ((repeat (first | exact imu_nil | refine imu_cons rfl (imu_agg2 (.ints _) (.intss _)) ?_)); done)); rintro r os0 ⟨rfl, rfl⟩; try simp only [List.nil_append, List.cons_append, List.set_cons_zero, List.set_cons_succ, List.length_cons, List.length_nil, Nat.reduceAdd, AV.sh, AV.sh1, AV.sh0, AO.sh, List.map_cons, List.map_nil, Nat.zero_add, Nat.add_zero, setAll]) | (apply w_callm (hlab); (focus ((repeat (first | exact im_nil | refine im_cons rfl (im_agg2 (.ints _) (.intss _)) ?_)); done)); rintro r os0 ⟨rfl, rfl⟩; try simp only [List.nil_append, List.cons_append, List.set_cons_zero, List.set_cons_succ, List.length_cons, List.length_nil, Nat.reduceAdd, AV.sh, AV.sh1, AV.sh0, AO.sh, List.map_cons, List.map_nil, Nat.zero_add, Nat.add_zero, setAll]) | ((apply w_ext); iterate 3 exact rfl) | ((first | apply w_not | apply w_boxa); iterate 2 exact rfl) | (apply w_ldst; iterate 5 exact rfl))
  refine AWp.loop (ι := Nat) (fun i => ⟨49, [(4, .own 1), (7, .own 3), (8, .i (dtF F (rts W.length (nearL E) i) (1, true)).1), (9, .i i)]⟩) (fun _ => [.bx 29 [.ints W, .intss E], .sli 2 F, .sli 2 G, .sli 2 Lb]) (fun i => i ≤ W.length ∧ (dtF F (rts W.length (nearL E) i) (1, true)).2 = true) (fun i => W.length - i) 0 ⟨by omega, rfl⟩ ⟨lee rfl (by (repeat (first | exact le_nil | refine le_eq rfl rfl ?_))), by (repeat (first | exact lo_nil | refine lo_eq rfl ?_)), rfl, rfl⟩ ?_
  rintro i ⟨i0, i1⟩
  have hin := dtF_in F (rts W.length (nearL E) i) (1, true) inM1
  by_cases hi : i < W.length
  · obtain ⟨jx, jx1, jx2, hix⟩ := hidx i hi
    have e7 : geti Lb (((i : Nat) : Int).toNat : Nat) = geti Lb (i : Nat) := by rw [Int.toNat_natCast]
    rw [← e7] at hix
    have hst := rts_step hF hi
    by_cases hr : (i : Int) ∈ rts W.length (nearL E) W.length
    · have ejx := jx2.2 hr
      rw [if_pos hr] at hst
      have e8 : geti F (((i : Nat) : Int).toNat : Nat) = geti F (i : Nat) := by rw [Int.toNat_natCast]
      have e1 : dtF F (rts W.length (nearL E) (i + 1)) (1, true) = (tmV (dtF F (rts W.length (nearL E) i) (1, true)).1 (geti F (i : Nat)), tok (dtF F (rts W.length (nearL E) i) (1, true)).1 (geti F (i : Nat))) := by
        rw [hst, dtF_app, dtF, dtF, if_pos i1]
      obtain ⟨t, ht⟩ := rts_pre W.length (nearL E) (i + 1) W.length (by omega)
      have c1 := l11Times_c (dtF F (rts W.length (nearL E) i) (1, true)).1 (geti F (i : Nat)) hin (hFi _ (geti_mem (by omega) (by omega)))
      rw [ht, dtF_app, e1] at hres
      rw [← e8] at c1 e1 hres
      generalize dtF F (rts W.length (nearL E) i) (1, true) = s at *
      cases hk : tok s.1 (geti F (((i : Nat) : Int).toNat : Nat)) with
      | false =>
        rw [hk] at c1 hres
        have hr2 : res.2 = false := by rw [hres]; exact dtF_no _ _ _
        rw [hr2]
        repeat' (first | (apply AOps.nil; try simp only [List.nil_append, List.cons_append, List.set_cons_zero, List.set_cons_succ, List.length_cons, List.length_nil, Nat.reduceAdd, AV.sh, AV.sh1, AV.sh0, AO.sh, List.map_cons, List.map_nil, Nat.zero_add, Nat.add_zero, setAll]) | (apply w_move; exact rfl; exact rfl) | (apply w_assign; exact rfl; exact rfl) | apply AWp.seq | apply AWp.region | ((apply AWp.condP; exact rfl) <;> intro h) | (apply AWp.condT; exact rfl) | apply AWp.block | apply AWp.ret | apply AWp.exit | apply AWp.skip | (apply w_len; exact rfl; exact rfl; first | exact .ints _ | exact .intss _ | exact .sli rfl | exact .sls rfl | exact .slr rfl | exact .orow rfl | exact .nil) | (apply w_call (hix); exact rfl; exact rfl; focus ((repeat (first | exact im_nil | refine im_cons rfl (.val _) ?_ | refine im_cons rfl (.sli rfl) ?_)); done)) | (apply w_call (c1); exact rfl; exact rfl; focus ((repeat (first | exact im_nil | refine im_cons rfl (.val _) ?_)); done)) | omega | ((first | apply w_lss | apply w_neq | apply w_idx | apply w_ld | apply w_extv); iterate 3 exact rfl) | ((apply w_not); iterate 2 exact rfl) | (apply w_idxo; exact rfl; exact rfl; (exact .sli rfl); exact rfl) | (apply w_ldo; iterate 4 exact rfl))
        all_goals try (exfalso; omega)
        all_goals exact .vv2 Try.results42 rfl rfl
      | true =>
        rw [hk] at c1 e1
        repeat' (first | (apply AOps.nil; try simp only [List.nil_append, List.cons_append, List.set_cons_zero, List.set_cons_succ, List.length_cons, List.length_nil, Nat.reduceAdd, AV.sh, AV.sh1, AV.sh0, AO.sh, List.map_cons, List.map_nil, Nat.zero_add, Nat.add_zero, setAll]) | (apply w_move; exact rfl; exact rfl) | (apply w_assign; exact rfl; exact rfl) | apply AWp.seq | apply AWp.region | ((apply AWp.condP; exact rfl) <;> intro h) | (apply AWp.condF; exact rfl) | apply AWp.block | apply AWp.ret | apply AWp.exit | apply AWp.skip | (apply w_len; exact rfl; exact rfl; first | exact .ints _ | exact .intss _ | exact .sli rfl | exact .sls rfl | exact .slr rfl | exact .orow rfl | exact .nil) | (apply w_call (hix); exact rfl; exact rfl; focus ((repeat (first | exact im_nil | refine im_cons rfl (.val _) ?_ | refine im_cons rfl (.sli rfl) ?_)); done)) | (apply w_call (c1); exact rfl; exact rfl; focus ((repeat (first | exact im_nil | refine im_cons rfl (.val _) ?_)); done)) | omega | ((first | apply w_lss | apply w_neq | apply w_add | apply w_idx | apply w_ld | apply w_extv); iterate 3 exact rfl) | ((apply w_not); iterate 2 exact rfl) | (apply w_idxo; exact rfl; exact rfl; (exact .sli rfl); exact rfl) | (apply w_ldo; iterate 4 exact rfl) | (apply inI_of <;> omega))
        all_goals try (exfalso; omega)
        exact ⟨i + 1, ⟨by omega, by rw [e1]⟩, by omega, by rw [e1]; exact ⟨lee rfl (by (repeat (first | exact le_nil | refine le_eq rfl rfl ?_))), by (repeat (first | exact lo_nil | refine lo_eq rfl ?_)), rfl, rfl⟩⟩
    · have ejx : ¬ jx = i := fun hh => hr (jx2.1 hh)
      rw [if_neg hr] at hst
      repeat' (first | (apply AOps.nil; try simp only [List.nil_append, List.cons_append, List.set_cons_zero, List.set_cons_succ, List.length_cons, List.length_nil, Nat.reduceAdd, AV.sh, AV.sh1, AV.sh0, AO.sh, List.map_cons, List.map_nil, Nat.zero_add, Nat.add_zero, setAll]) | (apply w_move; exact rfl; exact rfl) | (apply w_assign; exact rfl; exact rfl) | apply AWp.seq | apply AWp.region | ((apply AWp.condP; exact rfl) <;> intro h) | apply AWp.block | apply AWp.ret | apply AWp.exit | apply AWp.skip | (apply w_len; exact rfl; exact rfl; first | exact .ints _ | exact .intss _ | exact .sli rfl | exact .sls rfl | exact .slr rfl | exact .orow rfl | exact .nil) | (apply w_call (hix); exact rfl; exact rfl; focus ((repeat (first | exact im_nil | refine im_cons rfl (.val _) ?_ | refine im_cons rfl (.sli rfl) ?_)); done)) | omega | ((first | apply w_lss | apply w_neq | apply w_add | apply w_idx | apply w_ld); iterate 3 exact rfl) | (apply w_idxo; exact rfl; exact rfl; (exact .sli rfl); exact rfl) | (apply w_ldo; iterate 4 exact rfl) | (apply inI_of <;> omega))
      all_goals try (exfalso; omega)
      exact ⟨i + 1, ⟨by omega, by rw [hst]; exact i1⟩, by omega, by rw [hst]; exact ⟨lee rfl (by (repeat (first | exact le_nil | refine le_eq rfl rfl ?_))), by (repeat (first | exact lo_nil | refine lo_eq rfl ?_)), rfl, rfl⟩⟩
  · have ei : i = W.length := by omega
    subst ei
    rw [← hres] at i1 ⊢
    rw [i1, if_pos rfl]
    repeat' (first | (apply AOps.nil; try simp only [List.nil_append, List.cons_append, List.set_cons_zero, List.set_cons_succ, List.length_cons, List.length_nil, Nat.reduceAdd, AV.sh, AV.sh1, AV.sh0, AO.sh, List.map_cons, List.map_nil, Nat.zero_add, Nat.add_zero, setAll]) | (apply w_move; exact rfl; exact rfl) | (apply w_assign; exact rfl; exact rfl) | apply AWp.seq | apply AWp.region | ((apply AWp.condP; exact rfl) <;> intro h) | apply AWp.block | apply AWp.ret | apply AWp.exit | apply AWp.skip | (apply w_len; exact rfl; exact rfl; first | exact .ints _ | exact .intss _ | exact .sli rfl | exact .sls rfl | exact .slr rfl | exact .orow rfl | exact .nil) | omega | ((apply w_lss); iterate 3 exact rfl))
    all_goals exact .vv2 Try.results42 rfl rfl
theorem l11Det_lim (W : List Int) (E : List (List Int)) (h : GrF W E) (hl : ¬ bdOk W.length (nearL E) W) : AFnV Try.prog 42 [.agg [.ints W, .intss E]] (.tuple #[.int .i64 0, .bool false]) := by
  have hb := l11Branches_lim W E h hl
  (refine AFnV.start Try.func42 Try.ntmps42 rfl (by kernel_rfl) fun hk => ?_; simp only [Env.start, enumF, List.length_cons, List.length_nil, Nat.reduceAdd, Nat.reduceSub, List.cons_append, List.nil_append])
  repeat' (first | (apply AOps.nil; try simp only [List.nil_append, List.cons_append, List.set_cons_zero, List.set_cons_succ, List.length_cons, List.length_nil, Nat.reduceAdd, AV.sh, AV.sh1, AV.sh0, AO.sh, List.map_cons, List.map_nil, Nat.zero_add, Nat.add_zero, setAll]) | (apply w_move; exact rfl; exact rfl) | (apply w_assign; exact rfl; exact rfl) | apply AWp.seq | apply AWp.region | (apply AWp.condT; exact rfl) | apply AWp.ret | (apply w_callc [] (hb); exact rfl; (exact handed0); (focus ((repeat (first | exact imu_nil | refine imu_cons rfl (imu_agg2 (.ints _) (.intss _)) ?_)); done)); rintro r os0 ⟨rfl, rfl⟩; try simp only [List.nil_append, List.cons_append, List.set_cons_zero, List.set_cons_succ, List.length_cons, List.length_nil, Nat.reduceAdd, AV.sh, AV.sh1, AV.sh0, AO.sh, List.map_cons, List.map_nil, Nat.zero_add, Nat.add_zero, setAll]) | ((apply w_ext); iterate 3 exact rfl) | ((first | apply w_not | apply w_boxa); iterate 2 exact rfl) | (apply w_ldst; iterate 5 exact rfl))
  all_goals exact .vv2 Try.results42 rfl rfl
end Go.Proofs.Ytlkhcelodcneiaa
/-
  Bytes that are read, unsigned numbers, and a struct of bytes, a place and a hash behind a pointer; functions that write to it in its place. No condition.
-/
namespace Go.Proofs.Ytlkhcelodcneiaa
open Go Go.RowKit
set_option linter.unusedSimpArgs false

def BysAt (w : World) (ok : Nat → Prop) (v : Value) (bs : List Int) : Prop :=
  RowAt w ok v (bs.map (Value.int .u8)) ∧ ∀ x ∈ bs, 0 ≤ x ∧ x ≤ 255
theorem BysAt.mono {w w' : World} {ok ok' : Nat → Prop} {v : Value} {xs : List Int} (h : BysAt w ok v xs) (k : Keeps ok ok' w w') : BysAt w' ok' v xs := ⟨h.1.mono k, h.2⟩
theorem BysAt.oneCell {w : World} {ok : Nat → Prop} {v : Value} {xs : List Int} (h : BysAt w ok v xs) : v.oneCell' = true := by
  obtain ⟨⟨a, c, rfl, _⟩, _⟩ := h; rfl
def roB (u : Value) (bs : List Int) : Ro where
  p w ok v := v = u ∧ BysAt w ok v bs
  up k h := ⟨h.1, h.2.mono k⟩
section
variable {P : Program} {wl : Bool} {env : Env} {os : List AO} {d : Option Tmp} {ty : TypeId} {pos : String} {af : Array Edge} {g : Option (Nat × Bool)}
end
end Go.Proofs.Ytlkhcelodcneiaa
/-
  Slices of truth values that are only read. No condition.
-/
namespace Go.Proofs.Ytlkhcelodcneiaa
open Go Go.RowKit
set_option linter.unusedSimpArgs false
set_option linter.unusedVariables false

def blR (bs : List Bool) : Ro where
  p w ok v := RowAt w ok v (bs.map Value.bool)
  up k h := h.mono k
def blP (bs : List Bool) (i : Int) : Ro where
  p w ok v := ∃ b off, v = .pointer (some ⟨b, off, none⟩) ∧ ok b ∧ w.cell? ⟨b, off, none⟩ = some (.bool (bs.getD i.toNat false))
  up k h := by
    obtain ⟨b, off, e, h1, h2⟩ := h
    have hk := k b h1 (World.block_lt_of_cell? _ _ h2)
    exact ⟨b, off, e, hk.1, (World.cell?_of_block hk.2).trans h2⟩
section
variable {P : Program} {wl : Bool} {env : Env} {os : List AO} {d : Option Tmp} {ty : TypeId} {pos : String} {af : Array Edge} {g : Option (Nat × Bool)}
theorem q_lenbl {t e : TypeId} [ht : TSlice P t e] {x : Operand} {bs : List Bool} (hx : AV.ev env x = .ro (blR bs)) :
    QOp P wl ⟨d, .call { callee := .builtin .len, args := #[x], argTypes := #[t] }, ty, pos, af, g⟩ env os (.i bs.length) :=
  .of_run fun _ w gs tm hr => by
    have h := hr.ev x
    rw [hx] at h
    generalize hv0 : Act.eval ⟨tm, []⟩ x = v0 at h
    cases h with
    | ro h =>
      obtain ⟨p, cap, hv, _⟩ := h
      rw [List.length_map] at hv
      refine ⟨_, .val _, fun w' _ => ?_⟩
      simp [execOp, resolve, invoke, builtin, hv0, hv, Builtin.len_, run_underlying ht.und, goInt]
theorem q_idxbl {t e : TypeId} [ht : TSlice P t e] [he : TCell P e] {x y : Operand} {bs : List Bool} {i : Int} (hx : AV.ev env x = .ro (blR bs)) (hy : AV.ev env y = .i i) (h0 : 0 ≤ i) (h1 : i < bs.length) :
    QOp P wl ⟨d, .indexAddr t x y, ty, pos, af, g⟩ env os (.ro (blP bs i)) :=
  .of_run fun _ w gs tm hr => by
    have h := hr.ev x
    rw [hx] at h
    generalize hv0 : Act.eval ⟨tm, []⟩ x = v0 at h
    cases h with
    | ro h =>
      obtain ⟨p, cap, e1, _, _, h3⟩ := h
      obtain ⟨b, off, rfl, hok, hc⟩ := h3 (by simp; omega)
      have hlt : i.toNat < bs.length := by omega
      have hcell := hc i.toNat (.bool (bs.getD i.toNat false)) (by simp [hlt])
      refine ⟨_, .ro ⟨b, off + i.toNat, rfl, hok, hcell⟩, fun w' _ => ?_⟩
      obtain ⟨ie, hi, hs⟩ := he.info
      have hrun := run_idx ht.und hi hs ⟨b, off, none⟩ (bs.map Value.bool).length cap i h0 (by simpa using h1) w'
      simp only [execOp, hv0, e1, hr.evv hy, Sem.run_bind, hrun, add_none, Result.andThen_ok, Sem.run_pure]
theorem q_ldbl {t : TypeId} [ht : TCell P t] {x : Operand} {bs : List Bool} {i : Int} (hx : AV.ev env x = .ro (blP bs i)) : QOp P false ⟨d, .load t x, ty, pos, af, g⟩ env os (.b (bs.getD i.toNat false)) :=
  .of_runb fun _ w gs tm hr => by
    have h := hr.ev x
    rw [hx] at h
    generalize hv : Act.eval ⟨tm, []⟩ x = v at h
    cases h with
    | ro h =>
      obtain ⟨b, off, rfl, _, hc⟩ := h
      refine ⟨_, .val _, fun w' hw' => ?_⟩
      have hcell := below_cell hw' hc
      simp only [execOp, hv, Sem.run_bind, run_load_cell hcell, Result.andThen_ok, Sem.run_pure]
end
section
variable {P : Program} {env : Env} {os : List AO} {d : Tmp} {ty : TypeId} {pos : String} {af : Array Edge} {g : Option (Nat × Bool)} {l rest : List Oper} {K : APost} {q : Md}
theorem w_lenbl {t e : TypeId} [TSlice P t e] {x : Operand} {bs : List Bool} (hw : wantedA l env ⟨some d, .call { callee := .builtin .len, args := #[x], argTypes := #[t] }, ty, pos, af, g⟩ = some true) (hx : evo env x = some (.ro (blR bs)))
    (h' : AOps P q l rest K (env.up d (.i bs.length)) os) : AOps P q l (⟨some d, .call { callee := .builtin .len, args := #[x], argTypes := #[t] }, ty, pos, af, g⟩ :: rest) K env os := AOps.qo hw (q_lenbl (ev_of hx)) h'
theorem w_idxbl {t e : TypeId} [TSlice P t e] [TCell P e] {x y : Operand} {bs : List Bool} {i : Int} (hw : wantedA l env ⟨some d, .indexAddr t x y, ty, pos, af, g⟩ = some true) (hx : evo env x = some (.ro (blR bs))) (hy : evo env y = some (.i i)) (h0 : 0 ≤ i) (h1 : i < bs.length)
    (h' : AOps P q l rest K (env.up d (.ro (blP bs i))) os) : AOps P q l (⟨some d, .indexAddr t x y, ty, pos, af, g⟩ :: rest) K env os := AOps.qo hw (q_idxbl (ev_of hx) (ev_of hy) h0 h1) h'
theorem w_ldblr {t : TypeId} [TCell P t] {x : Operand} {bs : List Bool} {i : Int} (hw : wantedA l env ⟨some d, .load t x, ty, pos, af, g⟩ = some true) (hq : q.wl = false) (hx : evo env x = some (.ro (blP bs i)))
    (h' : AOps P q l rest K (env.up d (.b (bs.getD i.toNat false))) os) : AOps P q l (⟨some d, .load t x, ty, pos, af, g⟩ :: rest) K env os := AOps.qo hw (by rw [hq]; exact q_ldbl (ev_of hx)) h'
end
/-- An own slice of truth values reads as one. -/
theorem reads_bl {os : List AO} {h : Nat} {e : TypeId} {bs : List Bool} (hs : os[h]? = some (.slr e (bL bs))) : Reads os [h] (.own h) (blR bs) := by
  intro base w gs ok hro hok kp v hv
  cases hv with
  | @own _ gp hg =>
    obtain ⟨vs, a1, a2, a3, a4⟩ := hro _ _ _ hg hs
    rw [bL_len] at a2
    have hvs : vs = bs.map Value.bool := by
      apply List.ext_getElem (by simp [a2])
      intro i h1 h2
      have h5 := a3 i
      have hi : i < bs.length := by omega
      rw [List.getD_eq_getElem?_getD, List.getElem?_eq_getElem h1, List.getD_eq_getElem?_getD, bL_get hi] at h5
      simp only [Option.getD_some] at h5
      generalize hu : vs[i] = u at h5
      cases h5
      simp [List.getD_eq_getElem?_getD, hi]
    subst hvs
    show RowAt w ok gp.v (bs.map Value.bool)
    rcases a1.2 with ⟨h1, h2⟩ | ⟨b, cap, cur, h1, r⟩
    · rw [h1]
      exact ⟨none, 0, by rw [h2], by omega, Nat.zero_le _, fun h0 => by omega⟩
    · rw [h1]
      refine ⟨_, cap, rfl, r.2.2.1, r.2.2.2.1, fun _ => ⟨b, 0, rfl, ?_, fun i u hu => ?_⟩⟩
      · refine hok h (by simp) _ _ hg hs (by simp) b ?_
        rcases a4 with ⟨h3, h4⟩ | ⟨h3, h4⟩
        · rw [h1] at h3; cases h3
        · rw [h4]
          have : gp.b = b := by rw [h1] at h3; cases h3; rfl
          rw [this]; simp
      · have hi := (List.getElem?_eq_some_iff.1 hu).1
        obtain ⟨b2, cap2, e3, e4, e5, _⟩ := own_slice a1 (i := i) hi
        rw [h1] at e3; cases e3
        rw [Nat.zero_add, e5]; exact hu
end Go.Proofs.Ytlkhcelodcneiaa
/-
  Own numbers that are only read from here on; nil as own rows. No condition.
-/
namespace Go.Proofs.Ytlkhcelodcneiaa
open Go Go.RowKit

def AV.frzI1 (k : Nat) (xs : List Int) : AV → AV
  | .own h => if h = k then .ints xs else .own h
  | .optr h i => if h = k then .any else .optr h i
  | .osub h a b => if h = k then (if a + b ≤ xs.length then .ints ((xs.drop a).take b) else .any) else .osub h a b
  | .orow h i => if h = k then .any else .orow h i
  | .orptr h i j => if h = k then .any else .orptr h i j
  | .agg _ => .any
  | .tup _ => .any
  | a => a
def AV.frzI (k : Nat) (xs : List Int) : AV → AV
  | .own h => if h = k then .ints xs else .own h
  | .optr h i => if h = k then .any else .optr h i
  | .osub h a b => if h = k then (if a + b ≤ xs.length then .ints ((xs.drop a).take b) else .any) else .osub h a b
  | .orow h i => if h = k then .any else .orow h i
  | .orptr h i j => if h = k then .any else .orptr h i j
  | .agg l => .agg (l.map (AV.frzI1 k xs))
  | .tup l => .tup (l.map (AV.frzI1 k xs))
  | a => a
def AO.frzI (k : Nat) (xs : List Int) : AO → AO
  | .bx T avs => .bx T (avs.map (AV.frzI k xs))
  | .slr e avs => .slr e (avs.map (AV.frzI k xs))
  | o => o
theorem AO.frzI_dead {k : Nat} {xs : List Int} {o : AO} : o.frzI k xs = .dead ↔ o = .dead := by cases o <;> simp [AO.frzI]
theorem AO.frzI_live {k : Nat} {xs : List Int} {o : AO} : (o.frzI k xs).live ↔ o.live := by cases o <;> exact Iff.rfl
/-- An own slice, or a part of it, reads as its numbers. -/
theorem sli_at {base : Nat} {w : World} {ok ok' : Nat → Prop} {gs : List Gh} {g : Gh} {e : TypeId} {xs : List Int} (h : RO base w ok gs g (.sli e xs)) (hb : ∀ b, b ∈ g.bl → ok' b) :
    IntsAt w ok' g.v xs ∧ ∀ (p : Option Addr) (off len cap : Nat), (0 < len → p = some ⟨g.b, off, none⟩) → len ≤ cap → cap ≤ maxLen → off + len ≤ xs.length → IntsAt w ok' (.slice p len cap) ((xs.drop off).take len) := by
  obtain ⟨a1, a2, a3⟩ := h
  refine ⟨⟨RowAt.of_owns' (by rw [← List.length_map (f := Value.int .i64)] at a1; exact a1) fun b hbk => hb b (a3.mem hbk), a2⟩, fun p off len cap hp hc hm hle => ?_⟩
  have hl : (((xs.drop off).take len).map (Value.int .i64)).length = len := by simp; omega
  refine ⟨⟨p, cap, by rw [hl], by omega, hm, fun h0 => ?_⟩, fun x hx => a2 x (List.mem_of_mem_drop (List.mem_of_mem_take hx))⟩
  rw [hl] at h0
  have hgb : g.b ∈ g.bl := by
    obtain ⟨b, cap', e1, e2, e3, _⟩ := own_slice a1 (i := 0) (by simp; omega)
    have := a3.mem e2
    rw [a3.eq e2]; exact this
  refine ⟨_, off, hp h0, hb _ hgb, fun i u hu => ?_⟩
  have hi := (List.getElem?_eq_some_iff.1 hu).1
  rw [hl] at hi
  obtain ⟨b, cap', e1, e2, e3, _⟩ := own_slice a1 (i := off + i) (by simp; omega)
  rw [a3.eq e2, e3, ← hu, List.map_take, List.map_drop, List.getElem?_take, if_pos hi, List.getElem?_drop]

section
variable {w : World} {ok ok' : Nat → Prop} {gs : List Gh} {k : Nat} {xs : List Int}
/-- What the frozen rows look like to their readers. -/
def FrzIAt (w : World) (ok' : Nat → Prop) (gs : List Gh) (k : Nat) (xs : List Int) : Prop := ∀ g, gs[k]? = some g → IntsAt w ok' g.v xs ∧ ∀ (p : Option Addr) (off len cap : Nat), (0 < len → p = some ⟨g.b, off, none⟩) → len ≤ cap → cap ≤ maxLen → off + len ≤ xs.length → IntsAt w ok' (.slice p len cap) ((xs.drop off).take len)
theorem RV.frzI1 (kp : Keeps ok ok' w w) (hf : FrzIAt w ok' gs k xs) {v : Value} {a : AV} (hv : RV w ok gs v a) : RV w ok' gs v (a.frzI1 k xs) := by
  cases hv with
  | any v => exact .any v
  | val v => exact .val v
  | ints h => exact .ints (h.mono kp)
  | intss h => exact .intss (h.mono kp)
  | @ro v r h => exact .ro (r.up kp h)
  | iptr h h1 h2 => exact .iptr (h.mono kp) h1 h2
  | iiptr h h1 h2 => exact .iiptr (h.mono kp) h1 h2
  | own h1 =>
    simp only [AV.frzI1]; split
    · subst_vars; exact .ints (hf _ h1).1
    · exact .own h1
  | optr h1 =>
    simp only [AV.frzI1]; split
    · exact .any _
    · exact .optr h1
  | osub h1 h2 h3 h4 =>
    simp only [AV.frzI1]; split
    · split
      · rename_i h5; subst_vars; exact .ints ((hf _ h1).2 _ _ _ _ h2 h3 h4 h5)
      · exact .any _
    · exact .osub h1 h2 h3 h4
  | orow h1 h2 =>
    simp only [AV.frzI1]; split
    · exact .any _
    · exact .orow h1 h2
  | orptr h1 h2 =>
    simp only [AV.frzI1]; split
    · exact .any _
    · exact .orptr h1 h2
  | agg _ _ _ => exact .any _
  | tup _ _ => exact .any _
theorem getD_map_frzI1 (l : List AV) (i : Nat) : (l.map (AV.frzI1 k xs)).getD i .any = (l.getD i .any).frzI1 k xs := getD_map_f _ rfl l i
theorem getD_map_frzI (l : List AV) (i : Nat) : (l.map (AV.frzI k xs)).getD i .any = (l.getD i .any).frzI k xs := getD_map_f _ rfl l i
theorem RV.frzI (kp : Keeps ok ok' w w) (hf : FrzIAt w ok' gs k xs) {v : Value} {a : AV} (hv : RV w ok gs v a) : RV w ok' gs v (a.frzI k xs) := by
  cases hv with
  | any v => exact .any v
  | val v => exact .val v
  | ints h => exact .ints (h.mono kp)
  | intss h => exact .intss (h.mono kp)
  | @ro v r h => exact .ro (r.up kp h)
  | iptr h h1 h2 => exact .iptr (h.mono kp) h1 h2
  | iiptr h h1 h2 => exact .iiptr (h.mono kp) h1 h2
  | own h1 =>
    simp only [AV.frzI]; split
    · subst_vars; exact .ints (hf _ h1).1
    · exact .own h1
  | optr h1 =>
    simp only [AV.frzI]; split
    · exact .any _
    · exact .optr h1
  | osub h1 h2 h3 h4 =>
    simp only [AV.frzI]; split
    · split
      · rename_i h5; subst_vars; exact .ints ((hf _ h1).2 _ _ _ _ h2 h3 h4 h5)
      · exact .any _
    · exact .osub h1 h2 h3 h4
  | orow h1 h2 =>
    simp only [AV.frzI]; split
    · exact .any _
    · exact .orow h1 h2
  | orptr h1 h2 =>
    simp only [AV.frzI]; split
    · exact .any _
    · exact .orptr h1 h2
  | agg h1 h3 h2 => exact .agg (by simpa using h1) h3 fun i => by rw [getD_map_frzI1]; exact (h2 i).frzI1 kp hf
  | tup h1 h2 => exact .tup (by simpa using h1) fun i => by rw [getD_map_frzI1]; exact (h2 i).frzI1 kp hf
end
theorem Rel.freezeI {base : Nat} {w : World} {gs : List Gh} {env : Env} {os : List AO} {tm : Array Value} (h : Rel base w gs env os tm) {k : Nat} {e : TypeId} {xs : List Int} (hs : os[k]? = some (.sli e xs)) :
    Rel base w gs (env.mp (AV.frzI k xs)) ((os.map (AO.frzI k xs)).set k .dead) tm := by
  have hk : k < os.length := (List.getElem?_eq_some_iff.1 hs).1
  have oset : ∀ {i : Nat} {x : AO}, ((os.map (AO.frzI k xs)).set k .dead)[i]? = some x → (i = k ∧ x = .dead) ∨ (i ≠ k ∧ ∃ y, os[i]? = some y ∧ x = y.frzI k xs) := by
    intro i x hx
    rw [List.getElem?_set] at hx
    by_cases e : k = i
    · subst e
      rw [if_pos rfl, if_pos (by simpa using hk)] at hx
      cases hx; exact .inl ⟨rfl, rfl⟩
    · rw [if_neg e, List.getElem?_map] at hx
      cases hy : os[i]? with
      | none => rw [hy] at hx; cases hx
      | some y => rw [hy] at hx; cases hx; exact .inr ⟨fun e' => e e'.symm, y, rfl, rfl⟩
  have kp : Keeps (okOf gs os) (okOf gs ((os.map (AO.frzI k xs)).set k .dead)) w w := by
    intro b hb _
    refine ⟨fun i x o' hx ho' hl => ?_, rfl⟩
    rcases oset ho' with ⟨_, rfl⟩ | ⟨_, y, hy, rfl⟩
    · exact hl.elim
    · exact hb i x y hx hy (AO.frzI_live.1 hl)
  have hf : FrzIAt w (okOf gs ((os.map (AO.frzI k xs)).set k .dead)) gs k xs := by
    intro g hg
    refine sli_at (h.ho k g _ hg hs) fun b hb i x o' hx ho' hl hm => ?_
    rcases oset ho' with ⟨_, rfl⟩ | ⟨hik, y, hy, rfl⟩
    · exact hl.elim
    · exact h.hd k i g x _ _ (fun e => hik e.symm) hg hx hs hy (by simp) (AO.frzI_live.1 hl).ne b hb hm
  refine ⟨h.hb, by simpa using h.hl, h.hs, fun i => ?_, ?_, ?_, ?_⟩
  · rw [Env.lk_mp _ rfl]
    exact (h.he i).frzI kp hf
  · intro i g o' hg ho'
    rcases oset ho' with ⟨_, rfl⟩ | ⟨_, y, hy, rfl⟩
    · trivial
    · have hro := h.ho i g y hg hy
      cases y with
      | dead => trivial
      | sli e xs => exact hro
      | sls e e2 xs => exact hro
      | ob q => exact hro
      | keep n K => exact hro
      | slr e avs =>
        obtain ⟨vs, a1, a2, a3, a4⟩ := hro
        exact ⟨vs, a1, by simpa using a2, fun j => by rw [getD_map_frzI]; exact (a3 j).frzI kp hf, a4⟩
      | bx T avs =>
        obtain ⟨cs, c1, c2, c3, c4, c5, c6, c7⟩ := hro
        exact ⟨cs, c1, c2, c3, c4, by simpa using c5, c6, fun j => by rw [getD_map_frzI]; exact (c7 j).frzI kp hf⟩
  · intro i j g1 g2 o1 o2 hij hg1 hg2 ho1 ho2 hn1 hn2
    rcases oset ho1 with ⟨_, rfl⟩ | ⟨_, y, hy, rfl⟩
    · exact absurd rfl hn1
    · rcases oset ho2 with ⟨_, rfl⟩ | ⟨_, z, hz, rfl⟩
      · exact absurd rfl hn2
      · exact h.hd i j g1 g2 y z hij hg1 hg2 hy hz (fun e => hn1 (AO.frzI_dead.2 e)) (fun e => hn2 (AO.frzI_dead.2 e))
  · intro i g o' hg ho' hn
    rcases oset ho' with ⟨_, rfl⟩ | ⟨_, y, hy, rfl⟩
    · exact absurd rfl hn
    · exact h.hn i g y hg hy fun e => hn (AO.frzI_dead.2 e)
theorem Turns.freezeI {env : Env} {os : List AO} {k : Nat} {e : TypeId} {xs : List Int} (hs : os[k]? = some (.sli e xs)) : Turns env os (env.mp (AV.frzI k xs)) ((os.map (AO.frzI k xs)).set k .dead) :=
  fun _ _ gs _ h => ⟨gs, h.freezeI hs⟩
/-- A field that is nil becomes own rows. -/
theorem Rel.nilF {base : Nat} {w : World} {gs : List Gh} {env : Env} {os : List AO} {tm : Array Value} (h : Rel base w gs env os tm) {k i : Nat} {T : TypeId} {avs : List AV} (e e2 : TypeId) (hs : os[k]? = some (.bx T avs)) (hi : avs[i]? = some (.val (.slice none 0 0))) :
    ∃ gs', Rel base w gs' env ((os ++ [AO.sls e e2 []]).set k (.bx T (avs.set i (.own os.length)))) tm := by
  let g0 : Gh := ⟨.slice none 0 0, 0, [], []⟩
  have hr : Rel base w (gs ++ [g0]) env (os ++ [.sls e e2 []]) tm := h.new (Below.refl _ _) _ g0 (fun _ b hb => by simp [g0] at hb) ⟨[], [], [], World.ownsRow_nil w base e 1, rfl, rfl, rfl, fun i u h => (by simp at h), .inl ⟨rfl, rfl⟩, rfl, by simp [g0]⟩
  have hk : k < os.length := (List.getElem?_eq_some_iff.1 hs).1
  have hs' : (os ++ [AO.sls e e2 []])[k]? = some (.bx T avs) := by rw [List.getElem?_append_left hk]; exact hs
  have oset : ∀ {j : Nat} {x : AO}, ((os ++ [AO.sls e e2 []]).set k (.bx T (avs.set i (.own os.length))))[j]? = some x → (j = k ∧ x = .bx T (avs.set i (.own os.length))) ∨ (j ≠ k ∧ (os ++ [AO.sls e e2 []])[j]? = some x) := by
    intro j x hx
    rw [List.getElem?_set] at hx
    by_cases c : k = j
    · subst c
      rw [if_pos rfl, if_pos (by simp; omega)] at hx
      cases hx; exact .inl ⟨rfl, rfl⟩
    · rw [if_neg c] at hx
      exact .inr ⟨fun e' => c e'.symm, hx⟩
  have okm : ∀ b, okOf (gs ++ [g0]) (os ++ [.sls e e2 []]) b → okOf (gs ++ [g0]) ((os ++ [AO.sls e e2 []]).set k (.bx T (avs.set i (.own os.length)))) b := by
    intro b hb j x o hx ho hl
    rcases oset ho with ⟨rfl, rfl⟩ | ⟨_, ho⟩
    · exact hb j x _ hx hs' trivial
    · exact hb j x o hx ho hl
  have kp : Keeps (okOf (gs ++ [g0]) (os ++ [.sls e e2 []])) (okOf (gs ++ [g0]) ((os ++ [AO.sls e e2 []]).set k (.bx T (avs.set i (.own os.length))))) w w := fun b hb _ => ⟨okm b hb, rfl⟩
  have hgm : (gs ++ [g0])[os.length]? = some g0 := by rw [← h.hl]; simp
  refine ⟨gs ++ [g0], hr.hb, by have := hr.hl; simpa using this, hr.hs, fun j => (hr.he j).mono kp fun _ _ h => h, ?_, ?_, ?_⟩
  · intro j g o hg ho
    rcases oset ho with ⟨rfl, rfl⟩ | ⟨_, ho⟩
    · obtain ⟨cs, c1, c2, c3, c4, c5, c6, c7⟩ := hr.ho _ _ _ hg hs'
      refine ⟨cs, c1, c2, c3, c4, by simpa using c5, c6, fun q => ?_⟩
      have c8 := (c7 q).mono kp fun _ _ h => h
      by_cases hq : i = q
      · subst hq
        have hil : i < avs.length := (List.getElem?_eq_some_iff.1 hi).1
        have e1 : (avs.set i (.own os.length)).getD i .any = .own os.length := by simp [List.getD_eq_getElem?_getD, hil]
        have e2 : avs.getD i .any = .val (.slice none 0 0) := by simp [List.getD_eq_getElem?_getD, hi]
        rw [e1]
        rw [e2] at c8
        generalize cs.getD i undef = u at c8 ⊢
        cases c8
        exact .own (g := g0) hgm
      · have e1 : (avs.set i (.own os.length)).getD q .any = avs.getD q .any := by simp [List.getD_eq_getElem?_getD, hq]
        rw [e1]; exact c8
    · have hro := hr.ho j g o hg ho
      cases o with
      | dead => trivial
      | sli e xs => exact hro
      | sls e e2 xs => exact hro
      | ob q => exact hro
      | keep n K => exact hro
      | slr e avs =>
        obtain ⟨vs, a1, a2, a3, a4⟩ := hro
        exact ⟨vs, a1, a2, fun j => (a3 j).mono kp fun _ _ h => h, a4⟩
      | bx T avs =>
        obtain ⟨cs, c1, c2, c3, c4, c5, c6, c7⟩ := hro
        exact ⟨cs, c1, c2, c3, c4, c5, c6, fun j => (c7 j).mono kp fun _ _ h => h⟩
  · intro a b g1 g2 o1 o2 hab hg1 hg2 ho1 ho2 hn1 hn2
    rcases oset ho1 with ⟨q1, q2⟩ | ⟨_, q1⟩
    · rcases oset ho2 with ⟨p1, p2⟩ | ⟨_, p1⟩
      · exact absurd (q1.trans p1.symm) hab
      · rw [q1] at hg1 hab
        exact hr.hd _ _ g1 g2 _ _ hab hg1 hg2 hs' p1 (by simp) hn2
    · rcases oset ho2 with ⟨p1, p2⟩ | ⟨_, p1⟩
      · rw [p1] at hg2 hab
        exact hr.hd _ _ g1 g2 _ _ hab hg1 hg2 q1 hs' hn1 (by simp)
      · exact hr.hd _ _ g1 g2 _ _ hab hg1 hg2 q1 p1 hn1 hn2
  · intro a g o hg ho hn
    rcases oset ho with ⟨q1, q2⟩ | ⟨_, q1⟩
    · rw [q1] at hg
      exact hr.hn _ g _ hg hs' (by simp)
    · exact hr.hn _ g _ hg q1 hn
theorem Turns.nilF {env : Env} {os : List AO} {k i : Nat} {T : TypeId} {avs : List AV} (e e2 : TypeId) (hs : os[k]? = some (.bx T avs)) (hi : avs[i]? = some (.val (.slice none 0 0))) :
    Turns env os env ((os ++ [AO.sls e e2 []]).set k (.bx T (avs.set i (.own os.length)))) := fun _ _ _ _ h => h.nilF e e2 hs hi
end Go.Proofs.Ytlkhcelodcneiaa
/-
  A field that is nil as an own slice of numbers. No condition.
-/
namespace Go.Proofs.Ytlkhcelodcneiaa
open Go Go.RowKit
set_option linter.unusedVariables false
/-- A field that is nil becomes an own slice of numbers. -/
theorem Rel.nilI {base : Nat} {w : World} {gs : List Gh} {env : Env} {os : List AO} {tm : Array Value} (h : Rel base w gs env os tm) {k i : Nat} {T : TypeId} {avs : List AV} (e : TypeId) (hs : os[k]? = some (.bx T avs)) (hi : avs[i]? = some (.val (.slice none 0 0))) :
    ∃ gs', Rel base w gs' env ((os ++ [AO.sli e []]).set k (.bx T (avs.set i (.own os.length)))) tm := by
  let g0 : Gh := ⟨.slice none 0 0, 0, [], []⟩
  have hr : Rel base w (gs ++ [g0]) env (os ++ [.sli e []]) tm := h.new (Below.refl _ _) _ g0 (fun _ b hb => by simp [g0] at hb) ⟨World.ownsRow_nil w base e 1, fun x h => (by cases h), .inl ⟨rfl, rfl⟩⟩
  have hk : k < os.length := (List.getElem?_eq_some_iff.1 hs).1
  have hs' : (os ++ [AO.sli e []])[k]? = some (.bx T avs) := by rw [List.getElem?_append_left hk]; exact hs
  have oset : ∀ {j : Nat} {x : AO}, ((os ++ [AO.sli e []]).set k (.bx T (avs.set i (.own os.length))))[j]? = some x → (j = k ∧ x = .bx T (avs.set i (.own os.length))) ∨ (j ≠ k ∧ (os ++ [AO.sli e []])[j]? = some x) := by
    intro j x hx
    rw [List.getElem?_set] at hx
    by_cases c : k = j
    · subst c
      rw [if_pos rfl, if_pos (by simp; omega)] at hx
      cases hx; exact .inl ⟨rfl, rfl⟩
    · rw [if_neg c] at hx
      exact .inr ⟨fun e' => c e'.symm, hx⟩
  have okm : ∀ b, okOf (gs ++ [g0]) (os ++ [.sli e []]) b → okOf (gs ++ [g0]) ((os ++ [AO.sli e []]).set k (.bx T (avs.set i (.own os.length)))) b := by
    intro b hb j x o hx ho hl
    rcases oset ho with ⟨rfl, rfl⟩ | ⟨_, ho⟩
    · exact hb j x _ hx hs' trivial
    · exact hb j x o hx ho hl
  have kp : Keeps (okOf (gs ++ [g0]) (os ++ [.sli e []])) (okOf (gs ++ [g0]) ((os ++ [AO.sli e []]).set k (.bx T (avs.set i (.own os.length))))) w w := fun b hb _ => ⟨okm b hb, rfl⟩
  have hgm : (gs ++ [g0])[os.length]? = some g0 := by rw [← h.hl]; simp
  refine ⟨gs ++ [g0], hr.hb, by have := hr.hl; simpa using this, hr.hs, fun j => (hr.he j).mono kp fun _ _ h => h, ?_, ?_, ?_⟩
  · intro j g o hg ho
    rcases oset ho with ⟨rfl, rfl⟩ | ⟨_, ho⟩
    · obtain ⟨cs, c1, c2, c3, c4, c5, c6, c7⟩ := hr.ho _ _ _ hg hs'
      refine ⟨cs, c1, c2, c3, c4, by simpa using c5, c6, fun q => ?_⟩
      have c8 := (c7 q).mono kp fun _ _ h => h
      by_cases hq : i = q
      · subst hq
        have hil : i < avs.length := (List.getElem?_eq_some_iff.1 hi).1
        have e1 : (avs.set i (.own os.length)).getD i .any = .own os.length := by simp [List.getD_eq_getElem?_getD, hil]
        have e2 : avs.getD i .any = .val (.slice none 0 0) := by simp [List.getD_eq_getElem?_getD, hi]
        rw [e1]
        rw [e2] at c8
        generalize cs.getD i undef = u at c8 ⊢
        cases c8
        exact .own (g := g0) hgm
      · have e1 : (avs.set i (.own os.length)).getD q .any = avs.getD q .any := by simp [List.getD_eq_getElem?_getD, hq]
        rw [e1]; exact c8
    · have hro := hr.ho j g o hg ho
      cases o with
      | dead => trivial
      | sli e xs => exact hro
      | sls e e2 xs => exact hro
      | ob q => exact hro
      | keep n K => exact hro
      | slr e avs =>
        obtain ⟨vs, a1, a2, a3, a4⟩ := hro
        exact ⟨vs, a1, a2, fun j => (a3 j).mono kp fun _ _ h => h, a4⟩
      | bx T avs =>
        obtain ⟨cs, c1, c2, c3, c4, c5, c6, c7⟩ := hro
        exact ⟨cs, c1, c2, c3, c4, c5, c6, fun j => (c7 j).mono kp fun _ _ h => h⟩
  · intro a b g1 g2 o1 o2 hab hg1 hg2 ho1 ho2 hn1 hn2
    rcases oset ho1 with ⟨q1, q2⟩ | ⟨_, q1⟩
    · rcases oset ho2 with ⟨p1, p2⟩ | ⟨_, p1⟩
      · exact absurd (q1.trans p1.symm) hab
      · rw [q1] at hg1 hab
        exact hr.hd _ _ g1 g2 _ _ hab hg1 hg2 hs' p1 (by simp) hn2
    · rcases oset ho2 with ⟨p1, p2⟩ | ⟨_, p1⟩
      · rw [p1] at hg2 hab
        exact hr.hd _ _ g1 g2 _ _ hab hg1 hg2 q1 hs' hn1 (by simp)
      · exact hr.hd _ _ g1 g2 _ _ hab hg1 hg2 q1 p1 hn1 hn2
  · intro a g o hg ho hn
    rcases oset ho with ⟨q1, q2⟩ | ⟨_, q1⟩
    · rw [q1] at hg
      exact hr.hn _ g _ hg hs' (by simp)
    · exact hr.hn _ g _ hg q1 hn
theorem Turns.nilI {env : Env} {os : List AO} {k i : Nat} {T : TypeId} {avs : List AV} (e : TypeId) (hs : os[k]? = some (.bx T avs)) (hi : avs[i]? = some (.val (.slice none 0 0))) :
    Turns env os env ((os ++ [AO.sli e []]).set k (.bx T (avs.set i (.own os.length)))) := fun _ _ _ _ h => h.nilI e hs hi
end Go.Proofs.Ytlkhcelodcneiaa
/-
  A struct of two fields of which one is given; states with less in them; a tail shown once. No condition.
-/
namespace Go.Proofs.Ytlkhcelodcneiaa
open Go Go.RowKit
set_option linter.unusedVariables false
section
variable {P : Program} {env : Env} {os : List AO} {d : Option Tmp} {ty : TypeId} {pos : String} {af : Array Edge} {g : Option (Nat × Bool)} {wl : Bool}
end
section
variable {P : Program} {env : Env} {os : List AO} {d : Tmp} {ty : TypeId} {pos : String} {af : Array Edge} {g : Option (Nat × Bool)} {l rest : List Oper} {K : APost} {q : Md}
end
section
variable {P : Program} {env : Env} {os : List AO} {ty : TypeId} {pos : String} {af : Array Edge} {g : Option (Nat × Bool)} {l rest : List Oper} {K : APost}
end
theorem AWp.cut {P : Program} {c : Code} {N : APost} {X : Nat → APost} {Rt : APost} {env env' : Env} {os os' : List AO} (f : Fit env os env' os' ∨ ∃ σ, FitS σ env os env' os') (h : AWp P c N X Rt env' os') : AWp P c N X Rt env os := by
  intro base w0 w gs tm hr hb
  rcases f with f | ⟨σ, f⟩
  · obtain ⟨gs2, r2⟩ := hr.fit f
    exact h base w0 w gs2 tm r2 hb
  · obtain ⟨gs2, r2⟩ := hr.fits f
    exact h base w0 w gs2 tm r2 hb
theorem AOps.cut {P : Program} {l rest : List Oper} {K : APost} {env env' : Env} {os os' : List AO} (f : Fit env os env' os' ∨ ∃ σ, FitS σ env os env' os') (h : AOps P .seq l rest K env' os') : AOps P .seq l rest K env os := by
  intro base w0 w gs tm hr hb X Rt
  rcases f with f | ⟨σ, f⟩
  · obtain ⟨gs2, r2⟩ := hr.fit f
    exact h base w0 w gs2 tm r2 hb X Rt
  · obtain ⟨gs2, r2⟩ := hr.fits f
    exact h base w0 w gs2 tm r2 hb X Rt
/-- What is still to be shown, once for several places. -/
structure Tail (p : Prop) : Prop where
  h : p
theorem Tail.use {p q : Prop} (h : Tail p → q) (t : p) : q := h ⟨t⟩
end Go.Proofs.Ytlkhcelodcneiaa
