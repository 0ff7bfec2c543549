/-
  slices.Insert at slices of rows: one row more. No condition but a bound on the size.
-/
import Derived.Lib.LazyBuf
import Derived.Deep.Upon
import Derived.Test.YtpllbdjobmgikaaIns4
namespace Go.Proofs.Ytpllbdjobmgikaa
open Go Go.RowKit Go.Lib
set_option linter.unusedVariables false
set_option linter.unusedSimpArgs false

theorem ins_list {cs A : List Value} {rv : Value} {i n : Nat} (hn : cs.length = n) (hi : i < n) (hA : A.take i = cs.take i) (hl : A.length = n + 1) :
    ((A.take i ++ [rv] ++ A.drop (i + 1)).take (i + 1) ++ cs.drop i ++ (A.take i ++ [rv] ++ A.drop (i + 1)).drop (i + 1 + (cs.drop i).length)) = cs.take i ++ rv :: cs.drop i := by
  have e1 : (A.take i ++ [rv]).length = i + 1 := by simp; omega
  have e2 : (A.take i ++ [rv] ++ A.drop (i + 1)).drop (i + 1 + (cs.drop i).length) = [] := List.drop_of_length_le (by rw [List.length_append, e1, List.length_drop, List.length_drop]; omega)
  have e3 : (A.take i ++ [rv] ++ A.drop (i + 1)).take (i + 1) = A.take i ++ [rv] := by rw [List.take_append_of_le_length (by omega), List.take_of_length_le (by omega)]
  rw [e2, e3, List.append_nil, hA, List.append_assoc]
  rfl
theorem ins_list2 {cs : List Value} {u rv : Value} {i n : Nat} (hn : cs.length = n) (hi : i < n) :
    (((cs ++ [u]).take (i + 1) ++ cs.drop i ++ (cs ++ [u]).drop (i + 1 + (cs.drop i).length)).take i ++ [rv] ++ ((cs ++ [u]).take (i + 1) ++ cs.drop i ++ (cs ++ [u]).drop (i + 1 + (cs.drop i).length)).drop (i + [rv].length)) = cs.take i ++ rv :: cs.drop i := by
  have hl : ((cs ++ [u]).take (i + 1)).length = i + 1 := by simp; omega
  have e1 : (cs ++ [u]).drop (i + 1 + (cs.drop i).length) = [] := List.drop_of_length_le (by simp; omega)
  rw [e1, List.append_nil, List.length_singleton, List.take_append_of_le_length (by omega), List.take_take, Nat.min_eq_left (by omega), List.take_append_of_le_length (by omega), List.drop_append_of_le_length (by omega), List.drop_of_length_le (by omega)]
  simp
theorem ins_k (base vb vc i : Nat) (s : Value) (cs : List Value) (rv : Value) (w : World) (hown : w.ownsRow base 31 1 s cs.length cs) (hvown : w.ownsRow base 31 1 (.slice (some ⟨vb, 0, none⟩) 1 vc) 1 [rv])
    (h1 : rv.oneCell' = true) (h1c : ∀ v ∈ cs, v.oneCell' = true) (hi : i ≤ cs.length) (hap : s.ownBlock ≠ some vb) (hn : cs.length ≤ 1000000) (hbase : base ≤ w.heap.size) :
    Calls Try.prog 59 #[s, .int .i64 i, .slice (some ⟨vb, 0, none⟩) 1 vc] w fun ev w' =>
      ∃ s', ev = .returned s' ∧ w'.ownsRow base 31 1 s' (cs.length + 1) (cs.take i ++ rv :: cs.drop i) ∧ Below base w w' ∧ (∀ k, k < w.heap.size → some k ≠ s.ownBlock → w'.heap[k]? = w.heap[k]?) ∧ (s'.ownBlock = s.ownBlock ∨ s'.ownBlock = some w.heap.size) := by
  have hv0 : w.cell? ⟨vb, 0, none⟩ = some rv := by rw [hvown.cellAt 0 (by omega)]; rfl
  rcases hown.2 with ⟨rfl, h0⟩ | ⟨b, c, cur, rfl, hb, hg, hnc, hcm, hcs, htk⟩
  · obtain rfl : cs = [] := List.length_eq_zero_iff.1 h0
    obtain rfl : i = 0 := by simpa using hi
    refine (ins_nil_k base vb vc rv w hv0 h1 hbase).mono ?_
    rintro ev w' ⟨s', e1, e2, e3, e4⟩
    exact ⟨s', e1, by simpa using e2, (Below.refl _ _).grown e3 hbase (fun k hk => by cases hk), e3.block, e4⟩
  · rcases Nat.lt_or_ge i cs.length with hlt | hge
    · rcases Nat.lt_or_ge c (cs.length + 1) with hr | hr
      · refine (ins_grow_k base b cs.length c i vb vc cs rv w hown hvown h1 h1c hlt hr hn hbase).mono ?_
        rintro ev w' ⟨G, ROW, g1, g2, g3, e1, e2, e3⟩
        have o1 : (w.alloc (.cells ROW 31)).drew.ownsRow base 31 1 (.slice (some ⟨w.heap.size, 0, none⟩) (cs.length + 1) G) (cs.length + 1) (ROW.toList.take (cs.length + 1)) := by
          refine ⟨by simp; omega, .inr ⟨w.heap.size, G, ROW, rfl, hbase, heap_alloc_new w _, g1, g2, by omega, by rw [Nat.mul_one]⟩⟩
        have o2 := owns_setCells [rv] i _ _ o1 (by simp; omega)
        have o3 : ((w.alloc (.cells ROW 31)).drew.setCells w.heap.size i [rv]).drew.ownsRow base 31 1 (.slice (some ⟨w.heap.size, 0, none⟩) (cs.length + 1) G) (cs.length + 1) ((ROW.toList.take (cs.length + 1)).take i ++ [rv] ++ (ROW.toList.take (cs.length + 1)).drop (i + [rv].length)) := o2
        have o4 := owns_setCells (cs.drop i) (i + 1) _ _ o3 (by simp; omega)
        have hl : (ROW.toList.take (cs.length + 1)).length = cs.length + 1 := by simp; omega
        have ht : (ROW.toList.take (cs.length + 1)).take i = cs.take i := by rw [List.take_take, Nat.min_eq_left (by omega), e3]
        rw [List.length_singleton, ins_list rfl hlt ht hl] at o4
        have bl : Below base w ((((w.alloc (.cells ROW 31)).drew.setCells w.heap.size i [rv]).drew).setCells w.heap.size (i + 1) (cs.drop i)) :=
          below_setCells hbase _ _ _ (Below.drew (below_setCells hbase _ _ _ (Below.drew ((below_alloc w _).mono hbase))))
        have bl2 : Below w.heap.size w ((((w.alloc (.cells ROW 31)).drew.setCells w.heap.size i [rv]).drew).setCells w.heap.size (i + 1) (cs.drop i)) :=
          below_setCells (Nat.le_refl _) _ _ _ (Below.drew (below_setCells (Nat.le_refl _) _ _ _ (Below.drew (below_alloc w _))))
        subst e2
        exact ⟨_, e1, o4, bl, fun k hk _ => bl2.block k hk, .inr rfl⟩
      · refine (ins_shift_k base b cs.length c i vb vc cs rv w hown hvown h1 h1c hlt hr (fun e => hap (by rw [← e]; rfl)) hn hbase).mono ?_
        rintro ev w' ⟨e1, e2⟩
        obtain ⟨u, o1⟩ := owns_more hown hr
        have o1' : w.drew.ownsRow base 31 1 (.slice (some ⟨b, 0, none⟩) (cs.length + 1) c) (cs.length + 1) (cs ++ [u]) := o1
        have o2 := owns_setCells (cs.drop i) (i + 1) _ _ o1' (by simp; omega)
        have o3 := owns_setCells [rv] i _ _ o2 (by simp; omega)
        rw [ins_list2 rfl hlt] at o3
        subst e2
        refine ⟨_, e1, o3, below_setCells hb _ _ _ (below_setCells hb _ _ _ (Below.drew (Below.refl _ _))), fun k hk hne => ?_, .inl rfl⟩
        have hkb : k ≠ b := fun e => hne (by rw [e]; rfl)
        have sz := (below_setCells (Nat.zero_le b) (cs.drop i) (i + 1) w.drew (Below.drew (Below.refl 0 w))).size
        have hk1 : k < w.drew.heap.size := hk
        rw [World.heap_setCells_other _ _ _ _ (Nat.lt_of_lt_of_le hk sz) hkb, World.heap_setCells_other _ _ _ _ hk1 hkb]
        rfl
    · obtain rfl : i = cs.length := by omega
      refine (ins_end_k base b cs.length c vb vc cs rv w hown hv0 h1 hn hbase).mono ?_
      rintro ev w' ⟨s', e1, e2, e3, e4⟩
      refine ⟨s', e1, by simpa using e2, (Below.refl _ _).grown e3 hbase (fun k hk => by cases hk; exact hb), e3.block, e4⟩
end Go.Proofs.Ytpllbdjobmgikaa
