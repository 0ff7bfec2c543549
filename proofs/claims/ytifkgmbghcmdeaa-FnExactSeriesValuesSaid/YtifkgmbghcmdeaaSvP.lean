/-
  Values of parametrisations: what both sides compute. No condition.
-/
import Derived.Test.YtifkgmbghcmdeaaEchW
import Derived.Test.YtifkgmbghcmdeaaSer3
namespace Go.Proofs.Ytifkgmbghcmdeaa
open Go Go.RowKit

/-- A row that is shifted. -/
def shR (y : List Int) (s : Nat) : List Int := List.replicate s 0 ++ y.take (y.length - s)
theorem shR_len {y : List Int} {s : Nat} (h : s ≤ y.length) : (shR y s).length = y.length := by
  unfold shR; simp; omega
theorem geti_app (a b : List Int) (i : Nat) : geti (a ++ b) (i : Nat) = if i < a.length then geti a (i : Nat) else geti b ((i - a.length : Nat) : Nat) := by
  unfold geti
  simp only [Int.toNat_natCast, List.getD_eq_getElem?_getD, List.getElem?_append]
  split <;> rfl
theorem geti_nat (xs : List Int) (i : Int) : geti xs i = geti xs (i.toNat : Nat) := by unfold geti; rw [Int.toNat_natCast]
theorem inF_app {a b : List Int} (ha : inF a) (hb : inF b) : inF (a ++ b) := fun i => by
  rw [geti_nat, geti_app]; split
  · exact ha _
  · exact hb _
theorem inF_take {a : List Int} (ha : inF a) (n : Nat) : inF (a.take n) := fun i => by
  have h := ha i
  unfold geti at h ⊢
  rw [List.getD_eq_getElem?_getD, List.getElem?_take] at *
  split
  · exact h
  · simp
theorem shR_in {y : List Int} (h : inF y) (s : Nat) : inF (shR y s) := inF_app (inF_rep s) (inF_take h _)

/-- One more row keeps the rows in order. -/
theorem rw_add {m : Nat} {L : Rws} (hL : RwOk m L) {row : List Int} (hl : row.length = m) (hr : inF row) (hinv : ∀ q : Int, 1 ≤ q ∧ q ≤ 55440 → q * pwF q 55439 % 55441 = 1) : RwOk m (addR L row) := by
  unfold addR
  cases hx : redR L row.length row 0 with
  | none => exact hL
  | some t =>
    obtain ⟨t1, t2, t3, t4, t5, t6, q, q1, q2, q3⟩ := redR_ok hL row.length 0 row ⟨hl, hr, fun k hk => by omega⟩ (by omega) t hx
    refine ⟨fun i hi => ?_⟩
    simp only [List.length_append, List.length_cons, List.length_nil] at hi
    by_cases e : i < L.length
    · have e1 : (L ++ [t]).getD i (0, []) = L.getD i (0, []) := by
        rw [List.getD_eq_getElem?_getD, List.getElem?_append_left e, ← List.getD_eq_getElem?_getD]
      unfold rwAt
      simp only [e1]
      exact hL.at_ i e
    · have ei : i = L.length := by omega
      have e1 : (L ++ [t]).getD i (0, []) = t := by rw [ei]; simp [List.getD_eq_getElem?_getD]
      unfold rwAt
      simp only [e1]
      exact ⟨t1, t2, t3, t4, by rw [q3]; exact hinv q ⟨q1, q2⟩, t5⟩
/-- The rows have different numbers. -/
def RwNd (L : Rws) : Prop := L.Pairwise fun a b => a.1 ≠ b.1
theorem nd_add {m : Nat} {L : Rws} (hL : RwOk m L) (hn : RwNd L) {row : List Int} (hl : row.length = m) (hr : inF row) : RwNd (addR L row) := by
  unfold addR
  cases hx : redR L row.length row 0 with
  | none => exact hn
  | some t =>
    obtain ⟨t1, t2, t3, t4, t5, t6, _⟩ := redR_ok hL row.length 0 row ⟨hl, hr, fun k hk => by omega⟩ (by omega) t hx
    refine List.pairwise_append.2 ⟨hn, by simp, fun a ha b hb => ?_⟩
    simp at hb; subst hb
    unfold fndR at t6
    rw [List.findIdx?_eq_none_iff] at t6
    simpa using t6 a ha
theorem rw_len {m : Nat} {L : Rws} (hL : RwOk m L) (hn : RwNd L) : L.length ≤ m := by
  have h1 : (L.map fun t => t.1.toNat).Nodup := by
    unfold List.Nodup
    rw [List.pairwise_map]
    refine List.Pairwise.imp_of_mem (fun {x y} hx hy hxy => ?_) hn
    obtain ⟨i, hi, rfl⟩ := List.getElem_of_mem hx
    obtain ⟨j, hj, rfl⟩ := List.getElem_of_mem hy
    have a := hL.at_ i hi
    have b := hL.at_ j hj
    rw [List.getD_eq_getElem?_getD, List.getElem?_eq_getElem hi] at a
    rw [List.getD_eq_getElem?_getD, List.getElem?_eq_getElem hj] at b
    simp only [Option.getD_some] at a b
    omega
  have h2 := (full_le h1 fun x hx => by
    obtain ⟨t, ht, rfl⟩ := List.mem_map.1 hx
    obtain ⟨i, hi, rfl⟩ := List.getElem_of_mem ht
    have a := hL.at_ i hi
    rw [List.getD_eq_getElem?_getD, List.getElem?_eq_getElem hi] at a
    simp only [Option.getD_some] at a
    exact (by omega : (L[i]).1.toNat < m))
  simpa using h2
where
  full_le {l : List Nat} {m : Nat} (h : l.Nodup) (hm : ∀ x ∈ l, x < m) : l.length ≤ m := by
    have hp : ((List.range m).filter fun i => decide (i ∈ l)).Perm l := (List.perm_ext_iff_of_nodup (List.nodup_range.filter _) h).2 fun i => by
      simp only [List.mem_filter, List.mem_range, decide_eq_true_eq]
      exact ⟨fun h => h.2, fun h => ⟨hm i h, h⟩⟩
    have := hp.length_eq
    have h2 := List.length_filter_le (fun i => decide (i ∈ l)) (List.range m)
    simp at h2
    omega

/-! ### The powers, and the rows that come in -/
/-- The n-th power of a list, below m. -/
def ypw (cs : List Int) (m : Nat) : Nat → List Int
  | 0 => (List.replicate m 0).set 0 1
  | n + 1 => prd (ypw cs m n) cs m (ypw cs m n).length
theorem ypw_len (cs : List Int) (m : Nat) : ∀ n, (ypw cs m n).length = m
  | 0 => by simp [ypw]
  | n + 1 => by rw [ypw, prd_len]
theorem ypw_in (cs : List Int) (m : Nat) : ∀ n, inF (ypw cs m n)
  | 0 => fun i => by
    rw [ypw, geti_set]; split
    · omega
    · exact inF_rep m i
  | n + 1 => prd_in _ _ _ _
/-- The rows of one power come in: n of them. -/
def inS (N : Nat) (y : List Int) (L : Rws) : Nat → Rws
  | 0 => L
  | j + 1 => addR (inS N y L j) (shR y (j * N))
/-- The rows of the first n powers. -/
def vlL (N : Nat) (cs : List Int) (m : Nat) : Nat → Rws
  | 0 => []
  | n + 1 => inS N (ypw cs m n) (vlL N cs m n) ((m - 1) / N + 1)
theorem rw_nil (m : Nat) : RwOk m [] := ⟨fun i hi => by simp at hi⟩
/-- How a product with a list that begins with 0 begins. -/
theorem prw_low {b : List Int} {x : Int} {i : Nat} {l : List Int} {t : Nat} (h : ∀ s : Nat, s < t → geti l (s : Nat) = 0) (hb : geti b 0 = 0) (hx : i < t → x = 0 ∨ i + 1 = t) : ∀ k : Nat, ∀ s : Nat, s < t → geti (prw b x i l k) (s : Nat) = 0
  | 0, s, hs => h s hs
  | k + 1, s, hs => by
    have ih := prw_low h hb hx k
    rw [prw, geti_set]
    split
    · rename_i he
      rw [Int.toNat_natCast] at he
      have e : i + k = s := he.1
      rw [e, ih s hs]
      have hz : x * geti b (k : Nat) = 0 := by
        rcases hx (by omega) with h1 | h1
        · rw [h1, Int.zero_mul]
        · have : k = 0 := by omega
          subst this
          rw [show ((0 : Nat) : Int) = 0 from rfl, hb, Int.mul_zero]
      rw [hz]; rfl
    · exact ih s hs
theorem prd_low {a b : List Int} {m n : Nat} (ha : ∀ s : Nat, s < n → geti a (s : Nat) = 0) (hb : geti b 0 = 0) : ∀ i : Nat, ∀ s : Nat, s < n + 1 → geti (prd a b m i) (s : Nat) = 0
  | 0, s, hs => by
    rw [prd]; unfold geti
    rw [List.getD_eq_getElem?_getD, List.getElem?_replicate]; split <;> rfl
  | i + 1, s, hs => by
    rw [prd]
    refine prw_low (t := n + 1) (prd_low ha hb i) hb (fun hi => ?_) _ s hs
    by_cases e : i < n
    · exact .inl (ha i e)
    · exact .inr (by omega)
theorem ypw_low {cs : List Int} (m : Nat) (h : geti cs 0 = 0) : ∀ n : Nat, ∀ s : Nat, s < n → geti (ypw cs m n) (s : Nat) = 0
  | 0, s, hs => by omega
  | n + 1, s, hs => by rw [ypw]; exact prd_low (ypw_low m h n) h _ s hs
/-- The power n is the first one that is 0. -/
def isLast (cs : List Int) (m n : Nat) : Prop := ord (ypw cs m n) < 0 ∧ ∀ j, j < n → ¬ ord (ypw cs m j) < 0
theorem ord_zero {xs : List Int} (h : ∀ s : Nat, s < xs.length → geti xs (s : Nat) = 0) : ord xs < 0 := by
  have : ord xs = -1 := idxP_none fun j hj => by
    have := h j hj
    simp [ne0, this]
  omega
theorem last_uniq {cs : List Int} {m n k : Nat} (h1 : isLast cs m n) (h2 : isLast cs m k) : n = k := by
  rcases Nat.lt_trichotomy n k with h | h | h
  · exact absurd h1.1 (h2.2 n h)
  · exact h
  · exact absurd h2.1 (h1.2 k h)
/-- The values up to a bound. -/
def valF (L : Rws) : Nat → List Int
  | 0 => []
  | n + 1 => if (fndR L (n : Nat)).isSome then valF L n ++ [(n : Int)] else valF L n
theorem valF_len (L : Rws) : ∀ n, (valF L n).length ≤ n
  | 0 => Nat.le_refl _
  | n + 1 => by
    have := valF_len L n
    unfold valF; split
    · simp; omega
    · omega
open Classical in
/-- The values of a parametrisation. -/
noncomputable def svL (N : Nat) (cs : List Int) (m : Nat) : List Int := if h : ∃ n, isLast cs m n then valF (vlL N cs m (Classical.choose h)) m else []
theorem svL_at {N : Nat} {cs : List Int} {m n : Nat} (h : isLast cs m n) : svL N cs m = valF (vlL N cs m n) m := by
  have hx : ∃ n, isLast cs m n := ⟨n, h⟩
  unfold svL
  rw [dif_pos hx, last_uniq (Classical.choose_spec hx) h]
theorem svL_len (N : Nat) (cs : List Int) (m : Nat) : (svL N cs m).length ≤ m := by
  unfold svL; split
  · exact valF_len _ _
  · simp
end Go.Proofs.Ytifkgmbghcmdeaa
