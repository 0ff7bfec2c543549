/-
  Reading texts: leading digits, their number, parts between signs. Plain words. No condition.
-/
import Derived.Test.YtfgnccoaebkckaaDoorDt2
namespace Go.Proofs.YtfgnccoaebkckaaDoor
open Go

/-- How many letters of a kind a text begins with. -/
def pl (p : UInt8 → Bool) : List UInt8 → Nat
  | [] => 0
  | x :: r => if p x then pl p r + 1 else 0
theorem pl_le (p : UInt8 → Bool) : ∀ s, pl p s ≤ s.length
  | [] => Nat.le_refl _
  | x :: r => by
    have := pl_le p r
    simp only [pl, List.length_cons]; split <;> omega
theorem pl_lt (p : UInt8 → Bool) : ∀ (s : List UInt8) (j : Nat), j < pl p s → p (s.getD j 0) = true
  | [], j, h => by simp [pl] at h
  | x :: r, j, h => by
    simp only [pl] at h
    split at h
    · rename_i hx
      cases j with
      | zero => simpa using hx
      | succ j => simpa using pl_lt p r j (by omega)
    · omega
theorem pl_at (p : UInt8 → Bool) : ∀ (s : List UInt8), pl p s < s.length → p (s.getD (pl p s) 0) = false
  | [], h => by simp [pl] at h
  | x :: r, h => by
    simp only [pl, List.length_cons] at h ⊢
    split
    · rename_i hx
      rw [if_pos hx] at h
      simpa using pl_at p r (by omega)
    · rename_i hx
      simpa using hx
theorem pl_ge {p : UInt8 → Bool} {s : List UInt8} {i : Nat} (hi : i ≤ s.length) (h : ∀ j, j < i → p (s.getD j 0) = true) : i ≤ pl p s := by
  rcases Nat.lt_or_ge (pl p s) i with h1 | h1
  · have h2 := pl_at p s (by omega)
    rw [h _ h1] at h2; cases h2
  · exact h1
theorem pl_next {p : UInt8 → Bool} {s : List UInt8} {i : Nat} (hi : i ≤ pl p s) (hl : i < s.length) (h : p (s.getD i 0) = true) : i + 1 ≤ pl p s := by
  rcases Nat.lt_or_ge i (pl p s) with h1 | h1
  · exact h1
  · have e : pl p s = i := by omega
    have h2 := pl_at p s (by omega)
    rw [e, h] at h2; cases h2
theorem pl_eq {p : UInt8 → Bool} {s : List UInt8} {i : Nat} (hi : i ≤ pl p s) (h : i = s.length ∨ p (s.getD i 0) = false) : pl p s = i := by
  rcases Nat.lt_or_ge i (pl p s) with h1 | h1
  · have h2 := pl_lt p s i h1
    have h3 := pl_le p s
    rcases h with h | h
    · omega
    · rw [h] at h2; cases h2
  · omega
theorem pl_append {p : UInt8 → Bool} : ∀ {a b : List UInt8}, (∀ x ∈ a, p x = true) → (b = [] ∨ p (b.getD 0 0) = false) → pl p (a ++ b) = a.length
  | [], b, _, h => by
    cases b with
    | nil => rfl
    | cons y r =>
      rcases h with h | h
      · cases h
      · simp at h; simp [pl, h]
  | x :: a, b, ha, h => by
    have := pl_append (p := p) (a := a) (b := b) (fun y hy => ha y (List.mem_cons_of_mem _ hy)) h
    simp [pl, ha x (List.mem_cons_self ..), this]

def isDg (b : UInt8) : Bool := decide (48 ≤ b.toNat ∧ b.toNat ≤ 57)
/-- How many digits a text begins with. -/
def ndg (s : List UInt8) : Nat := pl isDg s
/-- The number that digits spell. -/
def vl (s : List UInt8) : Int := s.foldl (fun n b => 10 * n + ((b.toNat : Int) - 48)) 0
theorem vl_snoc (s : List UInt8) (b : UInt8) : vl (s ++ [b]) = 10 * vl s + ((b.toNat : Int) - 48) := by simp [vl, List.foldl_append]
theorem vl_take {s : List UInt8} {i : Nat} (hi : i < s.length) : vl (s.take (i + 1)) = 10 * vl (s.take i) + (((s.getD i 0).toNat : Int) - 48) := by
  rw [List.take_succ_eq_append_getElem hi, vl_snoc]
  simp [hi]
theorem vl_lt {s : List UInt8} {i : Nat} (hi : i ≤ ndg s) : 0 ≤ vl (s.take i) ∧ vl (s.take i) < 10 ^ i := by
  induction i with
  | zero => simp [vl]
  | succ i ih =>
    have h1 := ih (by omega)
    have h2 := pl_le isDg s
    have h3 := pl_lt isDg s i (by unfold ndg at hi; omega)
    simp only [isDg, decide_eq_true_eq] at h3
    unfold ndg at hi
    rw [vl_take (by omega), Int.pow_succ]
    omega

/-- The digits of a text are a number of at most nine digits without needless zeros. -/
def okN (k : Nat) (s : List UInt8) : Bool := decide (1 ≤ k ∧ k ≤ 9 ∧ ¬ (1 < k ∧ s.getD 0 0 = 48))
def dgOk (s : List UInt8) : Bool := okN (ndg s) s

/-- The first place of a sign. -/
def fi (c : UInt8) (s : List UInt8) : Nat := pl (fun b => b != c) s
/-- The parts between signs. -/
def spl (c : UInt8) : List UInt8 → List (List UInt8)
  | [] => [[]]
  | x :: r => if x = c then [] :: spl c r else match spl c r with
    | [] => [[x]]
    | w :: ws => (x :: w) :: ws
theorem spl_fi (c : UInt8) : ∀ s, spl c s = if fi c s < s.length then s.take (fi c s) :: spl c (s.drop (fi c s + 1)) else [s]
  | [] => by simp [spl, fi, pl]
  | x :: r => by
    by_cases h : x = c
    · simp [spl, fi, pl, h]
    · have ih := spl_fi c r
      have e : fi c (x :: r) = fi c r + 1 := by simp [fi, pl, h]
      rw [e]
      simp only [spl, if_neg h, List.length_cons, List.take_succ_cons, List.drop_succ_cons]
      rw [ih]
      by_cases h2 : fi c r < r.length
      · rw [if_pos h2, if_pos (by omega)]
      · rw [if_neg h2, if_neg (by omega)]
theorem spl_len (c : UInt8) : ∀ s, 1 ≤ (spl c s).length ∧ (spl c s).length ≤ s.length + 1
  | [] => by simp [spl]
  | x :: r => by
    have ih := spl_len c r
    by_cases h : x = c
    · simp only [spl, if_pos h, List.length_cons]; omega
    · simp only [spl, if_neg h]
      cases hs : spl c r with
      | nil => simp
      | cons w ws =>
        rw [hs] at ih
        simp only [List.length_cons] at ih ⊢
        omega
theorem spl_mem (c : UInt8) : ∀ (s w : List UInt8), w ∈ spl c s → w.length ≤ s.length
  | [], w, h => by simp [spl] at h; simp [h]
  | x :: r, w, h => by
    have ih := spl_mem c r
    simp only [spl] at h
    by_cases hx : x = c
    · rw [if_pos hx] at h
      rcases List.mem_cons.1 h with rfl | h
      · simp
      · have := ih w h; simp; omega
    · rw [if_neg hx] at h
      cases hs : spl c r with
      | nil => rw [hs] at h; simp at h; simp [h]
      | cons u us =>
        rw [hs] at h ih
        rcases List.mem_cons.1 h with rfl | h
        · have := ih u (List.mem_cons_self ..); simpa using this
        · have := ih w (List.mem_cons_of_mem _ h); simp; omega
/-- The parts of a text that is joined of parts without the sign. -/
theorem spl_join (c : UInt8) : ∀ (ss : List (List UInt8)), ss ≠ [] → (∀ w ∈ ss, ∀ x ∈ w, x ≠ c) → spl c (Lib.join ss [c]) = ss
  | [], h, _ => absurd rfl h
  | w :: r, _, h => by
    have one : ∀ w : List UInt8, (∀ x ∈ w, x ≠ c) → spl c w = [w] := by
      intro w
      induction w with
      | nil => intro _; rfl
      | cons x w ih =>
        intro hw
        simp only [spl, if_neg (hw x (List.mem_cons_self ..)), ih fun y hy => hw y (List.mem_cons_of_mem _ hy)]
    have app : ∀ w t : List UInt8, (∀ x ∈ w, x ≠ c) → spl c (w ++ c :: t) = w :: spl c t := by
      intro w t
      induction w with
      | nil => intro _; simp [spl]
      | cons x w ih =>
        intro hw
        simp only [List.cons_append, spl, if_neg (hw x (List.mem_cons_self ..)), ih fun y hy => hw y (List.mem_cons_of_mem _ hy)]
    cases r with
    | nil => rw [Lib.join_one]; exact one w (h w (List.mem_cons_self ..))
    | cons y r =>
      have ih := spl_join c (y :: r) (by simp) fun v hv => h v (List.mem_cons_of_mem _ hv)
      have e : Lib.join (w :: y :: r) [c] = w ++ c :: Lib.join (y :: r) [c] := by rw [Lib.join_cons, Lib.join_cons]; simp [Lib.joinTail]
      rw [e, app w _ (h w (List.mem_cons_self ..)), ih]
end Go.Proofs.YtfgnccoaebkckaaDoor
