/-
  Rows over the field of 55441 elements: how a row is reduced. No condition.
-/
import Derived.Test.YtifkgmbghcmdeaaProd
import Derived.Test.YtifkgmbghcmdeaaPow
import Derived.Test.YtifkgmbghcmdeaaAmMore17
namespace Go.Proofs.Ytifkgmbghcmdeaa
open Go Go.RowKit

/-- A row whose numbers from lo on, below hi, are others. -/
def updR (row : List Int) (g : Nat → Int) (lo hi : Nat) : List Int := (List.range row.length).map fun k => if lo ≤ k ∧ k < hi then g k else geti row (k : Nat)
theorem updR_len (row : List Int) (g : Nat → Int) (lo hi : Nat) : (updR row g lo hi).length = row.length := by simp [updR]
theorem geti_upd {row : List Int} {g : Nat → Int} {lo hi k : Nat} (hk : k < row.length) : geti (updR row g lo hi) (k : Nat) = if lo ≤ k ∧ k < hi then g k else geti row (k : Nat) := by
  unfold updR
  conv => lhs; unfold geti
  rw [Int.toNat_natCast, List.getD_eq_getElem?_getD, List.getElem?_map, List.getElem?_range hk]
  rfl
theorem geti_out {row : List Int} {k : Nat} (hk : row.length ≤ k) : geti row (k : Nat) = 0 := by
  unfold geti
  rw [Int.toNat_natCast, List.getD_eq_getElem?_getD, List.getElem?_eq_none hk]; rfl
theorem ext_geti {a b : List Int} (hl : a.length = b.length) (h : ∀ k : Nat, k < a.length → geti a (k : Nat) = geti b (k : Nat)) : a = b := by
  refine List.ext_getElem hl fun k h1 h2 => ?_
  have := h k h1
  unfold geti at this
  rw [Int.toNat_natCast, List.getD_eq_getElem?_getD, List.getD_eq_getElem?_getD, List.getElem?_eq_getElem h1, List.getElem?_eq_getElem h2] at this
  exact this
theorem updR_none (row : List Int) (g : Nat → Int) {lo hi : Nat} (h : hi ≤ lo) : updR row g lo hi = row :=
  ext_geti (updR_len _ _ _ _) fun k hk => by
    rw [updR_len] at hk
    rw [geti_upd hk, if_neg (by omega)]
theorem updR_set {row : List Int} {g : Nat → Int} {lo k : Nat} (hlo : lo ≤ k) (hk : k < row.length) {v : Int} (hv : v = g k) : (updR row g lo k).set k v = updR row g lo (k + 1) :=
  ext_geti (by simp [updR_len]) fun j hj => by
    have hj' : j < row.length := by simpa [updR_len] using hj
    rw [geti_set, geti_upd hj', geti_upd hj', Int.toNat_natCast, updR_len]
    by_cases e : k = j
    · subst e; rw [if_pos ⟨rfl, hk⟩, if_pos ⟨hlo, by omega⟩, hv]
    · rw [if_neg (fun h => e h.1)]
      by_cases h2 : lo ≤ j ∧ j < k
      · rw [if_pos h2, if_pos (by omega)]
      · rw [if_neg h2, if_neg (by omega)]
/-- What lies ahead of lo may be taken along, where it stays. -/
theorem updR_low {row : List Int} {g : Nat → Int} {lo hi : Nat} (h : ∀ k : Nat, k < lo → k < row.length → g k = geti row (k : Nat)) : updR row g 0 hi = updR row g lo hi :=
  ext_geti (by rw [updR_len, updR_len]) fun k hk => by
    rw [updR_len] at hk
    rw [geti_upd hk, geti_upd hk]
    by_cases h1 : k < lo
    · rw [if_neg (show ¬ (lo ≤ k ∧ k < hi) by omega)]
      split
      · exact h k h1 hk
      · rfl
    · by_cases h2 : k < hi
      · rw [if_pos ⟨Nat.zero_le _, h2⟩, if_pos ⟨by omega, h2⟩]
      · rw [if_neg (fun h => h2 h.2), if_neg (fun h => h2 h.2)]
theorem inF_upd {row : List Int} {g : Nat → Int} (h : inF row) (hg : ∀ k, 0 ≤ g k ∧ g k ≤ 55440) (lo hi : Nat) : inF (updR row g lo hi) := fun i => by
  have hi : geti (updR row g lo hi) i = geti (updR row g lo hi) (i.toNat : Nat) := by unfold geti; rw [Int.toNat_natCast]
  rw [hi]
  by_cases hk : i.toNat < row.length
  · rw [geti_upd hk]; split
    · exact hg _
    · exact h _
  · rw [geti_out (by rw [updR_len]; omega)]; omega

/-- A multiple of a row. -/
def sclG (row : List Int) (s : Int) (k : Nat) : Int := geti row (k : Nat) * s % 55441
/-- A row and a multiple of another one. -/
def adrG (row : List Int) (f : Int) (old : List Int) (k : Nat) : Int := (geti row (k : Nat) + f * geti old (k : Nat)) % 55441
/-- The row is reduced from the place 'at' on: nothing is left, or a row that begins with 1 at a place that is new. -/
def redR (L : Rws) : Nat → List Int → Nat → Option (Int × List Int)
  | 0, _, _ => none
  | n + 1, row, p => if geti row (p : Nat) = 0 then redR L n row (p + 1) else
    match fndR L (p : Nat) with
    | none => some ((p : Nat), updR row (sclG row (pwF (geti row (p : Nat)) 55439)) p row.length)
    | some k => redR L n (updR row (adrG row (55441 - geti row (p : Nat)) (rwAt L k)) p row.length) (p + 1)
/-- The rows with one more. -/
def addR (L : Rws) (row : List Int) : Rws := match redR L row.length row 0 with
  | none => L
  | some t => L ++ [t]

/-- Rows of one length with numbers of the field; each begins at its number. -/
structure RwOk (m : Nat) (L : Rws) : Prop where
  at_ : ∀ i : Nat, i < L.length → (rwAt L i).length = m ∧ inF (rwAt L i) ∧ 0 ≤ (L.getD i (0, [])).1 ∧ (L.getD i (0, [])).1 < m ∧ geti (rwAt L i) (L.getD i (0, [])).1 = 1 ∧ ∀ k : Nat, (k : Int) < (L.getD i (0, [])).1 → geti (rwAt L i) (k : Nat) = 0
theorem fnd_at {L : Rws} {p : Int} {k : Nat} (h : fndR L p = some k) : k < L.length ∧ (L.getD k (0, [])).1 = p := by
  obtain ⟨hk, h1, _⟩ := List.findIdx?_eq_some_iff_getElem.1 h
  refine ⟨hk, ?_⟩
  simp only [decide_eq_true_eq] at h1
  rw [List.getD_eq_getElem?_getD, List.getElem?_eq_getElem hk]
  exact h1
theorem scl_in (row : List Int) (s : Int) (k : Nat) : 0 ≤ sclG row s k ∧ sclG row s k ≤ 55440 := modP _
theorem adr_in (row : List Int) (f : Int) (old : List Int) (k : Nat) : 0 ≤ adrG row f old k ∧ adrG row f old k ≤ 55440 := modP _
/-- The state of a row that is being reduced. -/
structure RdI (m p : Nat) (row : List Int) : Prop where
  len : row.length = m
  inf : inF row
  zero : ∀ k : Nat, k < p → geti row (k : Nat) = 0
theorem RdI.next {m p : Nat} {row : List Int} (h : RdI m p row) (h0 : geti row (p : Nat) = 0) : RdI m (p + 1) row := ⟨h.len, h.inf, fun k hk => by
  by_cases e : k = p
  · subst e; exact h0
  · exact h.zero k (by omega)⟩
theorem RdI.red {m p : Nat} {row : List Int} {L : Rws} (h : RdI m p row) (hL : RwOk m L) {k : Nat} (hf : fndR L (p : Nat) = some k) (hp : p < m) : RdI m (p + 1) (updR row (adrG row (55441 - geti row (p : Nat)) (rwAt L k)) p row.length) := by
  obtain ⟨hk, e⟩ := fnd_at hf
  obtain ⟨a1, a2, a3, a4, a5, a6⟩ := hL.at_ k hk
  refine ⟨by rw [updR_len]; exact h.len, inF_upd h.inf (adr_in _ _ _) _ _, fun j hj => ?_⟩
  have hl := h.len
  rw [geti_upd (by omega)]
  by_cases e2 : j = p
  · subst e2
    rw [if_pos (by omega)]
    unfold adrG
    rw [e] at a5
    rw [a5]
    have := h.inf (j : Nat)
    omega
  · rw [if_neg (by omega)]
    exact h.zero j (by omega)
theorem redR_ok {m : Nat} {L : Rws} (hL : RwOk m L) : ∀ (n p : Nat) (row : List Int), RdI m p row → p + n = m → ∀ t, redR L n row p = some t → t.2.length = m ∧ inF t.2 ∧ 0 ≤ t.1 ∧ t.1 < m ∧ (∀ k : Nat, (k : Int) < t.1 → geti t.2 (k : Nat) = 0) ∧ fndR L t.1 = none ∧ (∃ q : Int, 1 ≤ q ∧ q ≤ 55440 ∧ geti t.2 t.1 = q * pwF q 55439 % 55441)
  | 0, p, row, h, hp, t, ht => by simp [redR] at ht
  | n + 1, p, row, h, hp, t, ht => by
    rw [redR] at ht
    have hl := h.len
    split at ht
    · exact redR_ok hL n (p + 1) row (h.next (by assumption)) (by omega) t ht
    · rename_i hne
      have hin := h.inf (p : Nat)
      cases hf : fndR L (p : Nat) with
      | none =>
        rw [hf] at ht
        simp only [Option.some.injEq] at ht
        subst ht
        refine ⟨by rw [updR_len]; exact hl, inF_upd h.inf (scl_in _ _) _ _, by simp, by simp only; omega, fun k hk => ?_, hf, geti row (p : Nat), by omega, by omega, ?_⟩
        · simp only at hk
          rw [geti_upd (by omega), if_neg (by omega)]
          exact h.zero k (by omega)
        · simp only
          rw [geti_upd (by omega), if_pos (by omega)]
          rfl
      | some k =>
        rw [hf] at ht
        exact redR_ok hL n (p + 1) _ (h.red hL hf (by omega)) (by omega) t ht
end Go.Proofs.Ytifkgmbghcmdeaa
