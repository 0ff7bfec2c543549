/-
  Counters: the plain law. No condition.
-/
import Derived.Test.YtpllbdjobmgikaaCnt1
import Derived.Test.YtpllbdjobmgikaaCnt2
namespace Go.Proofs.Ytpllbdjobmgikaa
open Go Go.RowKit

/-- Rows in order of their numbers, with counts that j changes can make. -/
structure ZI (j : Nat) (L : List (List Int)) : Prop where
  row : ∀ r ∈ L, ZOk (1 + 1000 * (j : Int)) r
  len : L.length ≤ 1 + j
  srt : L.Pairwise fun a b => geti a 0 < geti b 0
theorem zi_mono {j k : Nat} {L : List (List Int)} (h : ZI j L) (hjk : j ≤ k) : ZI k L :=
  ⟨fun r hr => by have := h.row r hr; unfold ZOk at *; omega, by have := h.len; omega, h.srt⟩
theorem zi_one : ZI 0 [[1, 1]] := ⟨fun r hr => by simp at hr; subst hr; exact ⟨rfl, by decide, by decide⟩, by simp, by simp⟩
theorem zi_nil : ZI 0 [] := ⟨fun r hr => by simp at hr, by simp, by simp⟩
theorem zIdx_le (L : List (List Int)) (m : Int) : zIdx L m ≤ L.length := List.findIdx_le_length
theorem zIdx_lt {L : List (List Int)} {m : Int} {k : Nat} (hk : k < zIdx L m) : geti (L.getD k []) 0 < m := by
  have hl := zIdx_le L m
  have := List.not_of_lt_findIdx (p := fun r => !decide (geti r 0 < m)) (xs := L) hk
  rw [List.getD_eq_getElem?_getD, List.getElem?_eq_getElem (by omega)]
  simpa using this
theorem zIdx_ge {L : List (List Int)} {m : Int} (h : zIdx L m < L.length) : m ≤ geti (L.getD (zIdx L m) []) 0 := by
  have := List.findIdx_getElem (p := fun r => !decide (geti r 0 < m)) (xs := L) (w := h)
  rw [List.getD_eq_getElem?_getD, List.getElem?_eq_getElem h]
  simp only [Option.getD_some]
  simp at this
  exact this
theorem srt_at {L : List (List Int)} (h : L.Pairwise fun a b => geti a 0 < geti b 0) {a b : Nat} (hab : a < b) (hb : b < L.length) : geti (L.getD a []) 0 < geti (L.getD b []) 0 := by
  have := (List.pairwise_iff_getElem.1 h) a b (by omega) hb hab
  rw [List.getD_eq_getElem?_getD, List.getElem?_eq_getElem (by omega), List.getD_eq_getElem?_getD, List.getElem?_eq_getElem hb]
  exact this
theorem zat {j : Nat} {L : List (List Int)} (h : ZI j L) (m : Int) : ZAt L m (zIdx L m) := by
  refine ⟨zIdx_le L m, fun k hk => ?_, fun k hk hl => ?_⟩
  · have := zIdx_lt hk
    unfold gets; rw [Int.toNat_natCast]; exact this
  · have hz := zIdx_ge (L := L) (m := m) (by omega)
    unfold gets; rw [Int.toNat_natCast]
    by_cases e : k = zIdx L m
    · rw [e]; exact hz
    · have := srt_at h.srt (a := zIdx L m) (b := k) (by omega) hl
      omega
theorem mem_at {L : List (List Int)} {r : List Int} (h : r ∈ L) : ∃ k, k < L.length ∧ L.getD k [] = r := by
  obtain ⟨k, hk, rfl⟩ := List.getElem_of_mem h
  exact ⟨k, hk, by rw [List.getD_eq_getElem?_getD, List.getElem?_eq_getElem hk]; rfl⟩
theorem at_mem {L : List (List Int)} {k : Nat} (h : k < L.length) : L.getD k [] ∈ L := by
  rw [List.getD_eq_getElem?_getD, List.getElem?_eq_getElem h]; exact List.getElem_mem h
theorem zi_put {j : Nat} {L : List (List Int)} (h : ZI j L) {m e : Int} (hm : 1 ≤ m ∧ m ≤ 1000000) (he : -1000 ≤ e ∧ e ≤ 1000) : ZI (j + 1) (putZ L m e) := by
  have h' := zi_mono h (Nat.le_succ j)
  have hzl := zIdx_le L m
  unfold putZ
  split
  · rename_i hc
    obtain ⟨hc1, hc2⟩ := hc
    have hr := h.row _ (at_mem hc1)
    have hnew : ZOk (1 + 1000 * ((j + 1 : Nat) : Int)) ((L.getD (zIdx L m) []).set 1 (geti (L.getD (zIdx L m) []) 1 + e)) ∧ geti ((L.getD (zIdx L m) []).set 1 (geti (L.getD (zIdx L m) []) 1 + e)) 0 = geti (L.getD (zIdx L m) []) 0 := by
      generalize L.getD (zIdx L m) [] = r at hr ⊢
      obtain ⟨h1, h2, h3⟩ := hr
      match r, h1 with
      | [a, b], _ =>
        have h2' : 1 ≤ a ∧ a ≤ 1000000 := h2
        have h3' : -(1 + 1000 * (j : Int)) ≤ b ∧ b ≤ 1 + 1000 * (j : Int) := h3
        exact ⟨⟨rfl, h2', by show -(1 + 1000 * ((j + 1 : Nat) : Int)) ≤ b + e ∧ b + e ≤ 1 + 1000 * ((j + 1 : Nat) : Int); omega⟩, rfl⟩
    refine ⟨fun r hr => ?_, by rw [List.length_set]; exact h'.len, ?_⟩
    · rcases List.mem_or_eq_of_mem_set hr with hr | rfl
      · exact h'.row r hr
      · exact hnew.1
    · rw [List.pairwise_iff_getElem]
      intro a b ha hb hab
      rw [List.length_set] at ha hb
      have hs := srt_at h.srt hab hb
      rw [List.getD_eq_getElem?_getD, List.getElem?_eq_getElem ha, List.getD_eq_getElem?_getD, List.getElem?_eq_getElem hb] at hs
      simp only [Option.getD_some] at hs
      have key : ∀ (k : Nat) (hk : k < (L.set (zIdx L m) ((L.getD (zIdx L m) []).set 1 (geti (L.getD (zIdx L m) []) 1 + e))).length) (hk' : k < L.length), geti ((L.set (zIdx L m) ((L.getD (zIdx L m) []).set 1 (geti (L.getD (zIdx L m) []) 1 + e)))[k]) 0 = geti L[k] 0 := by
        intro k hk hk'
        rw [List.getElem_set]
        split
        · rename_i e1
          subst e1
          rw [hnew.2, List.getD_eq_getElem?_getD, List.getElem?_eq_getElem hc1]
          rfl
        · rfl
      rw [key a _ ha, key b _ hb]
      exact hs
  · rename_i hc
    have hgt : zIdx L m < L.length → m < geti (L.getD (zIdx L m) []) 0 := fun hl => by
      have := zIdx_ge hl
      have : geti (L.getD (zIdx L m) []) 0 ≠ m := fun e => hc ⟨hl, e⟩
      omega
    refine ⟨fun r hr => ?_, ?_, ?_⟩
    · rcases List.mem_append.1 hr with hr | hr
      · exact h'.row r (List.mem_of_mem_take hr)
      · rcases List.mem_cons.1 hr with rfl | hr
        · exact ⟨rfl, hm, by show -(1 + 1000 * ((j + 1 : Nat) : Int)) ≤ e ∧ e ≤ 1 + 1000 * ((j + 1 : Nat) : Int); omega⟩
        · exact h'.row r (List.mem_of_mem_drop hr)
    · have := h.len
      simp
      omega
    · rw [List.pairwise_append]
      refine ⟨h.srt.sublist (List.take_sublist _ _), ?_, fun a ha b hb => ?_⟩
      · rw [List.pairwise_cons]
        refine ⟨fun b hb => ?_, h.srt.sublist (List.drop_sublist _ _)⟩
        obtain ⟨k, hk, rfl⟩ := List.getElem_of_mem hb
        rw [List.length_drop] at hk
        rw [List.getElem_drop]
        have h1 := hgt (by omega)
        have e0 : geti [m, e] 0 = m := rfl
        rw [e0]
        by_cases ek : k = 0
        · subst ek
          rw [List.getD_eq_getElem?_getD, List.getElem?_eq_getElem (by omega)] at h1
          exact h1
        · have := srt_at h.srt (a := zIdx L m) (b := zIdx L m + k) (by omega) (by omega)
          rw [List.getD_eq_getElem?_getD (i := zIdx L m + k), List.getElem?_eq_getElem (by omega)] at this
          simp only [Option.getD_some] at this
          omega
      · obtain ⟨k, hk, rfl⟩ := List.getElem_of_mem ha
        have hk' : k < zIdx L m := by rw [List.length_take] at hk; omega
        have h1 := zIdx_lt hk'
        rw [List.getD_eq_getElem?_getD, List.getElem?_eq_getElem (by omega)] at h1
        rw [List.getElem_take]
        rcases List.mem_cons.1 hb with rfl | hb
        · exact h1
        · obtain ⟨k2, hk2, rfl⟩ := List.getElem_of_mem hb
          rw [List.length_drop] at hk2
          rw [List.getElem_drop]
          have := (List.pairwise_iff_getElem.1 h.srt) k (zIdx L m + k2) (by omega) (by omega) (by omega)
          exact this
end Go.Proofs.Ytpllbdjobmgikaa
