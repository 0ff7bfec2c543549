/-
  Sums of polynomials: the plain law. No program.
-/
import Derived.Test.YtkickbnahajpoaaSpFn
namespace Go.Proofs.Ytkickbnahajpoaa
open Go Go.RowKit
attribute [local irreducible] AWp AOps ResIs Ret1 QOp LOp COp AFnV AFn Imms LeE LeO
set_option maxHeartbeats 1000000
set_option linter.unusedSimpArgs false
set_option linter.unusedVariables false

/-- The map holds keys of moderate size. -/
def BdK (L : List (Int × Int × Int)) : Prop := ∀ t ∈ L, (0 ≤ t.1 ∧ t.1 ≤ 100000) ∧ (0 ≤ t.2.1 ∧ t.2.1 ≤ 100000)
/-- f and k times the first n terms of g. -/
def adL (f : List (List Int)) (k : Int) (g : List (List Int)) : Nat → List (List Int)
  | 0 => f
  | n + 1 => putT (adL f k g n) (geti (gets g (n : Nat)) 0) (geti (gets g (n : Nat)) 1) (k * geti (gets g (n : Nat)) 2 % 55441)
def adM (f : List (List Int)) (k : Int) (g : List (List Int)) : Nat → List (Int × Int × Int)
  | 0 => f.map toT
  | n + 1 => addS (adM f k g n) (geti (gets g (n : Nat)) 0) (geti (gets g (n : Nat)) 1) (k * geti (gets g (n : Nat)) 2 % 55441)

theorem put_len (ts : List (List Int)) (i j c : Int) : (putT ts i j c).length ≤ ts.length + 1 := by
  induction ts with
  | nil => rw [putT_nil]; split <;> simp
  | cons t ts ih =>
    by_cases hb : bef i j t
    · rw [putT_bef hb]; simp; omega
    · rw [putT_nbef hb]
      repeat' split
      all_goals simp only [List.length_cons]
      all_goals omega
theorem putM_len (L : List (Int × Int × Int)) (i j c : Int) : (putM L i j c).length ≤ L.length + 1 := by
  induction L with
  | nil => rw [putM_nil]; simp
  | cons t L ih =>
    rw [putM_cons]
    split
    · simp
    · simp; omega
/-- Terms within the bounds of polynomials. -/
def In60 (ts : List (List Int)) : Prop := ∀ t ∈ ts, (geti t 0 ≤ 60 ∧ geti t 1 ≤ 60) ∧ geti t 2 ≤ 55440
theorem in_put {ts : List (List Int)} {i j c : Int} (h : In60 ts) (h3 : ∀ t ∈ ts, t.length = 3) (hi : i ≤ 60) (hj : j ≤ 60) (hc : c ≤ 55440) : In60 (putT ts i j c) := by
  intro x hx
  rcases mem_put ts h3 x hx with h1 | ⟨h1, h2, _, h4⟩
  · exact h x h1
  · rcases h4 with ⟨h4, _⟩ | ⟨t, _, h4, _⟩ <;> omega
theorem po_iff {ts : List (List Int)} (hs : Srt ts) (hz : TNz ts) (hi : In60 ts) : isPo ts = decide (ts.length ≤ 200) := by
  refine isPo_all fun j hj => ?_
  have e : gets ts (j : Nat) = ts[j] := by simp [gets, List.getD_eq_getElem?_getD, hj]
  have hm : ts[j] ∈ ts := List.getElem_mem hj
  obtain ⟨⟨a1, a2, a3, _⟩, a4⟩ := hz _ hm
  have a5 := hi _ hm
  refine ⟨by rw [e]; exact a1, by rw [e]; omega, by rw [e]; omega, by rw [e]; omega, fun hpos => ?_⟩
  have hs' := hs
  unfold Srt at hs'
  rw [List.pairwise_iff_getElem] at hs'
  have := hs' (j - 1) j (by omega) hj (by omega)
  have e2 : gets ts ((j : Int) - 1) = ts[j - 1] := by
    rw [show ((j : Int) - 1) = ((j - 1 : Nat) : Int) by omega]
    simp [gets, List.getD_eq_getElem?_getD, show j - 1 < ts.length by omega]
  rw [e, e2]
  unfold bef at this
  unfold Bef
  omega

structure AdI (ts : List (List Int)) (L : List (Int × Int × Int)) (n : Nat) : Prop where
  srt : Srt ts
  nz : TNz ts
  in60 : In60 ts
  len : ts.length ≤ 200 + n
  keys : KeysN L
  co : CoOk L
  bd : BdK L
  lenM : L.length ≤ 200 + n
  eq : ∀ a b, cof ts a b = lookM L a b
theorem mul_in {k c : Int} (hk : 0 ≤ k ∧ k ≤ 55440) (hc : 1 ≤ c ∧ c ≤ 55440) : 0 ≤ k * c ∧ k * c ≤ 3073593600 := by
  refine ⟨Int.mul_nonneg hk.1 (by omega), ?_⟩
  have := Int.mul_le_mul hk.2 hc.2 (by omega) (by omega : (0 : Int) ≤ 55440)
  omega
theorem ad_inv {f g : List (List Int)} (hf : isPo f = true) (hg : isPo g = true) {k : Int} (hk : 0 ≤ k ∧ k ≤ 55440) : ∀ n, n ≤ g.length → AdI (adL f k g n) (adM f k g n) n
  | 0, _ => by
    have hz := po_nz hf
    refine ⟨po_srt hf, hz.1, fun t ht => by have := hz.2 t ht; omega, by have := (isPo_of hf).1; show f.length ≤ _; omega, keys_toT (po_srt hf), co_toT hf, fun x hx => ?_, by have := (isPo_of hf).1; simp [adM]; omega, fun a b => (look_toT f a b).symm⟩
    obtain ⟨t, ht, rfl⟩ := List.mem_map.1 hx
    have h1 := (hz.1 t ht).1
    unfold TOk at h1
    show (0 ≤ geti t 0 ∧ geti t 0 ≤ 100000) ∧ (0 ≤ geti t 1 ∧ geti t 1 ≤ 100000)
    omega
  | n + 1, hn => by
    have ih := ad_inv hf hg hk n (by omega)
    obtain ⟨q1, q2, q3, q4, _⟩ := (isPo_of hg).2 n (by omega)
    have hm := mul_in hk q4
    have h3 : ∀ t ∈ adL f k g n, t.length = 3 := fun t ht => (ih.nz t ht).1.1
    refine ⟨srt_put _ ih.srt h3, nz_put ih.nz (by omega) (by omega) (by omega), in_put ih.in60 h3 (by omega) (by omega) (by omega), ?_, keys_add ih.keys _ _ _, co_add ih.co _ _ _, ?_, ?_, fun a b => ?_⟩
    · have := put_len (adL f k g n) (geti (gets g (n : Nat)) 0) (geti (gets g (n : Nat)) 1) (k * geti (gets g (n : Nat)) 2 % 55441)
      have := ih.len
      simp only [adL]
      omega
    · intro x hx
      rcases mem_putM x hx with h1 | rfl
      · exact ih.bd x h1
      · show (0 ≤ geti (gets g (n : Nat)) 0 ∧ geti (gets g (n : Nat)) 0 ≤ 100000) ∧ (0 ≤ geti (gets g (n : Nat)) 1 ∧ geti (gets g (n : Nat)) 1 ≤ 100000)
        omega
    · have := putM_len (adM f k g n) (geti (gets g (n : Nat)) 0) (geti (gets g (n : Nat)) 1) ((lookM (adM f k g n) (geti (gets g (n : Nat)) 0) (geti (gets g (n : Nat)) 1) + k * geti (gets g (n : Nat)) 2 % 55441) % 55441)
      have := ih.lenM
      simp only [adM, addS]
      omega
    · rw [adL, adM, cof_put (by omega) a b _ ih.srt (fun t ht => (ih.nz t ht).1), look_add, ih.eq, ih.eq]

end Go.Proofs.Ytkickbnahajpoaa
