/-
  slices.Insert at slices of rows: one row more, ahead of others, where there is room. No condition but a bound on the size.
-/
import Derived.Shelf.Spec.SlicesInsert
import Derived.Test.YtpllbdjobmgikaaIns2
namespace Go.Proofs.Ytpllbdjobmgikaa
open Go Go.RowKit Go.Lib
set_option linter.unusedVariables false
set_option linter.unusedSimpArgs false

theorem owns_more {base b n c : Nat} {e : TypeId} {w : World} {cs : List Value} (h : w.ownsRow base e 1 (.slice (some ⟨b, 0, none⟩) n c) n cs) (hn : n + 1 ≤ c) : ∃ u, w.ownsRow base e 1 (.slice (some ⟨b, 0, none⟩) (n + 1) c) (n + 1) (cs ++ [u]) := by
  rcases h.2 with ⟨h', _⟩ | ⟨g, cap, cur, h', hb, hg, hnc, hcm, hcs, ht⟩
  · cases h'
  · cases h'
    have hlen : n < cur.toList.length := by simp; omega
    refine ⟨cur.toList[n], ⟨by have := h.1; simp; omega, .inr ⟨b, c, cur, rfl, hb, hg, hn, hcm, hcs, ?_⟩⟩⟩
    rw [Nat.mul_one] at ht ⊢
    rw [List.take_succ_eq_append_getElem hlen, ht]

set_option maxHeartbeats 8000000 in
set_option maxRecDepth 100000 in
theorem ins_shift_k (base b n c i vb vc : Nat) (cs : List Value) (rv : Value) (w : World) (hown : w.ownsRow base 31 1 (.slice (some ⟨b, 0, none⟩) n c) n cs) (hvown : w.ownsRow base 31 1 (.slice (some ⟨vb, 0, none⟩) 1 vc) 1 [rv])
    (h1 : rv.oneCell' = true) (h1c : ∀ v ∈ cs, v.oneCell' = true) (hi : i < n) (hroom : n + 1 ≤ c) (hvb : vb ≠ b) (hn : n ≤ 1000000) (hbase : base ≤ w.heap.size) :
    Calls Try.prog 59 #[.slice (some ⟨b, 0, none⟩) n c, .int .i64 i, .slice (some ⟨vb, 0, none⟩) 1 vc] w fun ev w' =>
      ev = .returned (.slice (some ⟨b, 0, none⟩) (n + 1) c) ∧ w' = (w.drew.setCells b (i + 1) (cs.drop i)).setCells b i [rv] := by
  obtain ⟨ii, hii, hs, hz, hby⟩ := (inferInstance : TElem Try.prog 31 (.slice none 0 0) 24).info
  have ht : Try.prog.underlying 22 = some (.slice 31) := (inferInstance : TSlice Try.prog 22 31).und
  have hcl : cs.length = n := by have := hown.1; omega
  obtain ⟨u, hown1⟩ := owns_more hown hroom
  have hsz : (Try.prog.info? 31).map (·.size) = some 1 := by rw [hii]; simp [hs]
  have hsize : ∀ w, (Go.sizeOf 31).run Try.prog w = .ok 1 w := fun w => by simp [Go.sizeOf, typeInfo, hii, hs]
  have hc63 : c ≤ 9223372036854775807 := by
    rcases hown.2 with ⟨h, _⟩ | ⟨g, cap, cur, h, _, _, h4, h5, _⟩
    · cases h
    · cases h; unfold maxLen at h5; omega
  have hshape : ∃ k, k ≠ 0 ∧ w.shape? b = some (31, k) := by
    rcases hown.2 with ⟨h, _⟩ | ⟨g, cap, cur, h, _, hg, h4, h5, h6, _⟩
    · cases h
    · cases h; exact ⟨cur.size, by omega, by simp [World.shape?, hg]⟩
  obtain ⟨kB, hkB, hsb⟩ := hshape
  have hshapev : ∃ k, w.shape? vb = some (31, k) := by
    rcases hvown.2 with ⟨h, _⟩ | ⟨g, cap, cur, h, _, hg, _⟩
    · cases h
    · cases h; exact ⟨cur.size, by simp [World.shape?, hg]⟩
  obtain ⟨kA, hsa⟩ := hshapev
  have hcs : ∀ j v, cs[j]? = some v → w.cell? ⟨b, j, none⟩ = some v := fun j v hj => by
    have hjl := (List.getElem?_eq_some_iff.1 hj).1
    rw [hown.cellAt j (by omega)]; exact hj
  have hsp : ∀ j, j < n + 1 → (w.cell? ⟨b, j, none⟩).isSome = true := fun j hj => by
    have hl1 := hown1.1
    rw [hown1.cellAt j (by omega), List.getElem?_eq_getElem (by omega)]; rfl
  have hfz : ∀ j, w.frozen? ⟨b, j, none⟩ = false := fun j => hown.frozenAt j
  have hv0 : w.cell? ⟨vb, 0, none⟩ = some rv := by rw [hvown.cellAt 0 (by omega)]; rfl
  have hov : ∀ lb cb, (callFunc 60 #[.slice (some ⟨vb, 0, none⟩) 1 vc, .slice (some ⟨b, i + 1, none⟩) lb cb]).run Try.prog w = .ok (.value (.bool false)) w := fun lb cb => by
    rw [run_callFunc_extern Try.func60 (by kernel_rfl) (by kernel_rfl) (by kernel_rfl) (e := Extern.SlicesOverlaps.overlaps #[22, 22] #[4]) (by kernel_rfl),
      Lib.run_overlaps_apart w 22 4 31 ht 1 hsize ⟨vb, 0, none⟩ ⟨b, i + 1, none⟩ 1 vc lb cb hvb _ _ kA kB hsa hsb hkB (hvown.frozenAt 0) (hvown.frozenAt kA)]
    rfl
  have hdl : (cs.drop i).length = n - i := by rw [List.length_drop, hcl]
  have hin : i ≤ n := by omega
  have htn : ((i : Int) + 1).toNat = i + 1 := by omega
  have hcp1 : ∀ ty dc sc, (Builtin.copy_ #[22, 22] ty #[.slice (some ⟨b, i + 1, none⟩) (n - i) dc, .slice (some ⟨b, i, none⟩) (n + 1 - i) sc]).run Try.prog w.drew = .ok (goInt (cs.drop i).length) (w.drew.setCells b (i + 1) (cs.drop i)) := fun ty dc sc =>
    run_copy_cells w.drew _ _ ty 31 b (i + 1) (n - i) dc ⟨b, i, none⟩ (n + 1 - i) sc (cs.drop i) ht hsz (by rw [hdl]; simp only [Nat.min_def]; split <;> omega)
      (fun j v hj => by rw [Addr.add_lit]; exact hcs (i + j) v (by rwa [List.getElem?_drop] at hj))
      (fun j hj => hsp _ (by omega)) (fun j hj => hfz _) (fun v hv => h1c v (List.mem_of_mem_drop hv))
  obtain ⟨W1, hW1⟩ : ∃ W1, W1 = w.drew.setCells b (i + 1) (cs.drop i) := ⟨_, rfl⟩
  have hsp1 : ∀ k, k < n + 1 → (W1.cell? ⟨b, k, none⟩).isSome = true := fun k hk => by
    rw [hW1]
    exact isSome_setCells b (cs.drop i) (i + 1) w.drew (fun j hj => hsp _ (by rw [hdl] at hj; omega)) k (hsp k hk)
  have hcp2 : ∀ (W : World), (∀ x, W.cell? x = W1.cell? x) → (∀ x, W.frozen? x = W1.frozen? x) → ∀ ty dc, (Builtin.copy_ #[22, 22] ty #[.slice (some ⟨b, i, none⟩) (n + 1 - i) dc, .slice (some ⟨vb, 0, none⟩) 1 vc]).run Try.prog W = .ok (goInt 1) (W.setCells b i [rv]) := fun W hWc hWf ty dc =>
    run_copy_cells W _ _ ty 31 b i (n + 1 - i) dc ⟨vb, 0, none⟩ 1 vc [rv] ht hsz (by simp only [List.length_cons, List.length_nil, Nat.min_def]; split <;> omega)
      (fun j v hj => by
        match j, hj with
        | 0, hj =>
          simp at hj; subst hj
          rw [Addr.add_zero', hWc, hW1, World.cell?_setCells_out b _ _ _ _ (fun h _ => absurd h hvb)]
          exact hv0)
      (fun j hj => by rw [hWc]; exact hsp1 _ (by simp at hj; omega)) (fun j hj => by rw [hWf, hW1, World.frozen?_setCells]; exact hfz _) (fun v hv => by simp at hv; subst hv; exact h1)
  rw [← hW1] at hcp1
  have hz2 : ¬ ((i : Int) = (n : Int)) := by omega
  have mixed : Try.prog.follows Departure.mixedOrders = true := by kernel_rfl
  have hb2 : ¬ (c = i + 1) := by omega
  have hb4 : ¬ (c = i) := by omega
  have hw1 : IntKind.i64.wrap ((i : Int) + 1) = (i : Int) + 1 := by rw [IntKind.wrap_i64]; omega
  have hb1 : (0 : Int) ≤ (i : Int) + 1 := by omega
  have hb3 : (i : Int) ≤ (n : Int) + 1 := by omega
  go_enter Try.func59, Try.ntmps59
  go_wp2_with (simp only [hov])
  go_region_law_o (refine step_copy_runI rfl _ _ 22 22 rfl _ _ (by simp [Act.eval, Act.put]) (by simp [Act.eval, Act.put]) (hcp1 _ _ _) ?_)
  go_wp2_with (at_builtin; refine wpList_copy_runI _ rfl _ _ 22 22 rfl _ _ rfl rfl (hcp2 _ (fun _ => rfl) (fun _ => rfl) _ _) ?_)
  go_ret
  first | exact ⟨rfl, rfl⟩ | exact ⟨rfl, by rw [hW1]⟩
end Go.Proofs.Ytpllbdjobmgikaa
